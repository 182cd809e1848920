/- The law CaptureBuilds as a plain statement on numbers and lists: with enough rounds it answers true; conditions: each number is one of its kind, no list or string is longer than its memory allows. -/
import Derived.Laws.BitsAllLaws
import Derived.WalkKit
import Derived.Test.YteafkdadpdofjaaWMore
import Derived.Laws.Strings
import Derived.Test.YteafkdadpdofjaaQx0
import Derived.Test.YteafkdadpdofjaaQx3
import Derived.Test.YteafkdadpdofjaaQx4
import Derived.Test.YteafkdadpdofjaaQx5
import Derived.Test.YteafkdadpdofjaaQx6
import Derived.Test.YteafkdadpdofjaaQx7
import Derived.Test.YteafkdadpdofjaaQx9
import Derived.Test.YteafkdadpdofjaaQx10
import Derived.Test.YteafkdadpdofjaaQx11
import Derived.Test.YteafkdadpdofjaaQx13
import Derived.Test.YteafkdadpdofjaaQx14
import Derived.Test.YteafkdadpdofjaaQx16
import Derived.Test.YteafkdadpdofjaaQx17
import Derived.Test.YteafkdadpdofjaaQx19
import Derived.Test.YteafkdadpdofjaaQx20
import Derived.Test.YteafkdadpdofjaaQx23
import Derived.Test.YteafkdadpdofjaaQx24
import Derived.Test.YteafkdadpdofjaaQx25
import Derived.Test.YteafkdadpdofjaaQx26
import Derived.Test.YteafkdadpdofjaaQx43
namespace Go.Proofs.Yteafkdadpdofjaa
open Go Go.RowKit Go.Proofs.YteafkdadpdofjaaW.PrintWords Go.Proofs.YteafkdadpdofjaaW.PrintLast Go.Proofs.Yteafkdadpdofjaa.Q
set_option linter.unusedVariables false
theorem w64 {x : Int} (h0 : -9223372036854775808 ≤ x) (h1 : x ≤ 9223372036854775807) : wrap64 x = x := by
  unfold wrap64
  omega
theorem wf64 {x : Int} (h : (Lit.int .i64 x).wf = true) : -9223372036854775808 ≤ x ∧ x ≤ 9223372036854775807 := by
  simp [Lit.wf, IntKind.min, IntKind.max, IntKind.bits, IntKind.signed] at h
  omega
theorem andNot1 {a : Int} (h : (Lit.int .i64 a).wf = true) : Go.bits .andNot .i64 a 1 = 0 ↔ a = 0 ∨ a = 1 := by
  have hw := wf64 h
  have e1 : Go.bits .andNot .i64 a 1 = IntKind.i64.wrap (((BitVec.ofInt 64 a &&& ~~~BitVec.ofInt 64 1).toNat : Nat) : Int) := rfl
  have e2 : (BitVec.ofInt 64 a &&& ~~~BitVec.ofInt 64 1).toNat = (BitVec.ofInt 64 a).toNat &&& 18446744073709551614 := by
    rw [BitVec.toNat_and]
    rfl
  have e3 : ((BitVec.ofInt 64 a).toNat : Int) = a % 18446744073709551616 := by
    rw [BitVec.toNat_ofInt]
    omega
  rw [e1, e2, nat_hi64_1, IntKind.wrap_i64]
  omega
theorem succ_mid {α : Type} (pre : List α) (x : α) (h : pre.length ≤ 9223372036854775806) : wrap64 ((pre.length : Int) + 1) = ((pre ++ [x]).length : Int) := by
  rw [w64 (by omega) (by omega)]
  simp
theorem mid_snoc {α : Type} (pre post : List α) (x : α) : pre ++ x :: post = (pre ++ [x]) ++ post := by simp
def sm : List S48 → Int
  | [] => 0
  | x :: l => x.f1 + sm l
def vldF (left : Int) : List S48 → Bool
  | [] => true
  | x :: l => if (x.f0 = 0 ∨ x.f0 = 1) ∧ 1 ≤ x.f1 ∧ x.f1 ≤ left then vldF (left - x.f1) l else false
def vld (l : List S48) : Bool := if l.length ≤ 262144 then vldF 1099511627776 l else false
def RunWf (x : S48) : Prop := (Lit.int .i64 x.f0).wf = true ∧ (Lit.int .i64 x.f1).wf = true
def RunsWf (l : List S48) : Prop := ∀ x ∈ l, RunWf x
def RunsOk (l : List S48) : Prop := ∀ x ∈ l, (x.f0 = 0 ∨ x.f0 = 1) ∧ 1 ≤ x.f1
theorem rd_mid (pre post : List S48) (x : S48) : rd_T48 (pre ++ x :: post) (pre.length : Int) = x := by simp [rd_T48, List.getD]
theorem mid_lt (pre post : List S48) (x : S48) : (pre.length : Int) < ((pre ++ x :: post).length : Int) := by
  simp only [List.length_append, List.length_cons]
  omega
theorem sm_nonneg : ∀ {l : List S48}, RunsOk l → 0 ≤ sm l
  | [], _ => Int.le_refl _
  | x :: l, h => by
    have h1 := h x (by simp)
    have h2 := sm_nonneg (l := l) (fun y hy => h y (by simp [hy]))
    simp only [sm]
    omega
theorem sm_append : ∀ (a b : List S48), sm (a ++ b) = sm a + sm b
  | [], b => by simp [sm]
  | x :: a, b => by
    have := sm_append a b
    simp only [List.cons_append, sm]
    omega
theorem vldF_iff : ∀ {l : List S48} {left : Int}, 0 ≤ left → (vldF left l = true ↔ RunsOk l ∧ sm l ≤ left)
  | [], left, h => by simp [vldF, RunsOk, sm, h]
  | x :: l, left, h => by
    unfold vldF
    by_cases c : (x.f0 = 0 ∨ x.f0 = 1) ∧ 1 ≤ x.f1 ∧ x.f1 ≤ left
    · rw [if_pos c, vldF_iff (l := l) (by omega)]
      simp only [RunsOk, sm, List.mem_cons, forall_eq_or_imp]
      constructor
      · rintro ⟨h1, h2⟩
        exact ⟨⟨⟨c.1, c.2.1⟩, h1⟩, by omega⟩
      · rintro ⟨⟨h1, h2⟩, h3⟩
        exact ⟨h2, by omega⟩
    · rw [if_neg c]
      simp only [Bool.false_eq_true, false_iff]
      rintro ⟨h1, h2⟩
      have h3 := h1 x (by simp)
      have h4 := sm_nonneg (l := l) (fun y hy => h1 y (by simp [hy]))
      simp only [sm] at h2
      exact c ⟨h3.1, h3.2, by omega⟩
theorem vld_iff {l : List S48} : vld l = true ↔ l.length ≤ 262144 ∧ RunsOk l ∧ sm l ≤ 1099511627776 := by
  unfold vld
  by_cases c : l.length ≤ 262144
  · rw [if_pos c, vldF_iff (by omega)]
    simp [c]
  · rw [if_neg c]
    simp [c]
theorem RunsOk.cons {x : S48} {l : List S48} (h : RunsOk (x :: l)) : ((x.f0 = 0 ∨ x.f0 = 1) ∧ 1 ≤ x.f1) ∧ RunsOk l := ⟨h x (by simp), fun y hy => h y (by simp [hy])⟩
theorem RunsOk.left {a b : List S48} (h : RunsOk (a ++ b)) : RunsOk a := fun x hx => h x (List.mem_append_left _ hx)
theorem wave_Valid_l0 : ∀ (post pre : List S48) (left : Int), 0 ≤ left → left ≤ 1099511627776 → RunsWf post → (pre ++ post).length ≤ 140737488351232 →
    Ev (fun k => wave_Valid.l0 k left (pre ++ post) ((pre ++ post).length : Int) (pre.length : Int)) (vldF left post)
  | [], pre, left, h0, h1, hw, hl => by
    refine Ev.step (f := fun _ => some true) (fun k => ?_) (Ev.now _)
    simp only [wave_Valid.l0]
    rw [if_neg (by simp)]
  | x :: post, pre, left, h0, h1, hw, hl => by
    have hx := hw x (by simp)
    have hlt := mid_lt pre post x
    have hn : pre.length ≤ 9223372036854775806 := by
      simp only [List.length_append, List.length_cons] at hl
      omega
    by_cases c : (x.f0 = 0 ∨ x.f0 = 1) ∧ 1 ≤ x.f1 ∧ x.f1 ≤ left
    · have ih := wave_Valid_l0 post (pre ++ [x]) (left - x.f1) (by omega) (by omega) (fun y hy => hw y (by simp [hy])) (by simpa using hl)
      rw [← mid_snoc] at ih
      rw [vldF, if_pos c]
      refine Ev.step (fun k => ?_) ih
      simp only [wave_Valid.l0]
      rw [rd_mid, if_pos hlt, if_pos (by omega), if_pos hlt, if_pos ((andNot1 hx.1).2 c.1), if_neg (by omega), if_neg (by omega), w64 (by omega) (by omega), succ_mid _ _ hn]
    · rw [vldF, if_neg c]
      refine Ev.step (f := fun _ => some false) (fun k => ?_) (Ev.now _)
      simp only [wave_Valid.l0]
      rw [rd_mid, if_pos hlt, if_pos (by omega), if_pos hlt]
      by_cases c1 : x.f0 = 0 ∨ x.f0 = 1
      · rw [if_pos ((andNot1 hx.1).2 c1)]
        by_cases c2 : x.f1 < 1
        · rw [if_pos c2]
        · rw [if_neg c2, if_pos (by
            have : ¬ (1 ≤ x.f1 ∧ x.f1 ≤ left) := fun h => c ⟨c1, h⟩
            omega)]
      · rw [if_neg (fun h => c1 ((andNot1 hx.1).1 h))]
theorem wave_Valid_ev {l : List S48} (hw : RunsWf l) (hl : l.length ≤ 140737488351232) : Ev (fun k => wave_Valid.f k l) (vld l) := by
  unfold vld
  by_cases c : l.length ≤ 262144
  · rw [if_pos c]
    refine Ev.congr (fun k => ?_) (wave_Valid_l0 l [] 1099511627776 (by omega) (by omega) hw (by simpa using hl))
    unfold wave_Valid.f
    rw [if_neg (by omega)]
    rfl
  · rw [if_neg c]
    refine Ev.congr (fun k => ?_) (Ev.now _)
    unfold wave_Valid.f
    rw [if_pos (by omega)]
def longV (l : List S48) : Int := if vld l = true then sm l else 0
theorem wave_sum_l0 : ∀ (post pre : List S48) (s : Int), 0 ≤ s → s + sm post ≤ 4611686018427387904 → RunsOk post → (pre ++ post).length ≤ 140737488351232 →
    Ev (fun k => wave_sum.l0 k s (pre ++ post) ((pre ++ post).length : Int) (pre.length : Int)) (s + sm post)
  | [], pre, s, h0, h1, hw, hl => by
    refine Ev.step (f := fun _ => some s) (fun k => ?_) ?_
    · simp only [wave_sum.l0]
      rw [if_neg (by simp)]
    · simp only [sm, Int.add_zero]
      exact Ev.now _
  | x :: post, pre, s, h0, h1, hw, hl => by
    have hx := hw.cons
    have hs := sm_nonneg hx.2
    simp only [sm] at h1
    have hlt := mid_lt pre post x
    have hn : pre.length ≤ 9223372036854775806 := by
      simp only [List.length_append, List.length_cons] at hl
      omega
    have ih := wave_sum_l0 post (pre ++ [x]) (s + x.f1) (by omega) (by omega) hx.2 (by simpa using hl)
    rw [← mid_snoc] at ih
    have e1 : s + sm (x :: post) = s + x.f1 + sm post := by
      simp only [sm]
      omega
    rw [e1]
    refine Ev.step (fun k => ?_) ih
    simp only [wave_sum.l0]
    rw [rd_mid, if_pos hlt, if_pos (by omega), if_pos hlt, w64 (x := s + x.f1) (by omega) (by omega), succ_mid _ _ hn]
theorem wave_sum_ev {l : List S48} (hw : RunsOk l) (hs : sm l ≤ 4611686018427387904) (hl : l.length ≤ 140737488351232) : Ev (fun k => wave_sum.f k l) (sm l) := by
  have h := wave_sum_l0 l [] 0 (by omega) (by omega) hw (by simpa using hl)
  rw [Int.zero_add] at h
  exact Ev.congr (fun k => rfl) h
theorem wave_Long_ev {l : List S48} (hw : RunsWf l) (hl : l.length ≤ 140737488351232) : Ev (fun k => wave_Long.f k l) (longV l) := by
  unfold longV
  refine Ev.bind (wave_Valid_ev hw hl) ?_
  by_cases v : vld l = true
  · simp only [if_pos v]
    have hv := vld_iff.1 v
    exact Ev.bind (wave_sum_ev hv.2.1 (by omega) hl) (Ev.now _)
  · simp only [if_neg v]
    exact Ev.now _
theorem last_at (o : List S48) (x : S48) (h : o.length ≤ 9223372036854775806) : wrap64 (((o ++ [x]).length : Int) - 1) = (o.length : Int) := by
  rw [w64 (by simp only [List.length_append, List.length_cons, List.length_nil]; omega) (by simp only [List.length_append, List.length_cons, List.length_nil]; omega)]
  simp
theorem rd_last (o : List S48) (x : S48) : rd_T48 (o ++ [x]) (o.length : Int) = x := rd_mid o [] x
theorem set_last (o : List S48) (x y : S48) : (o ++ [x]).set ((o.length : Int)).toNat y = o ++ [y] := by
  rw [Int.toNat_natCast, List.set_append_right _ _ (Nat.le_refl _), Nat.sub_self]
  rfl
theorem rdi_mid (pre post : List Int) (x : Int) : rd (pre ++ x :: post) (pre.length : Int) = x := by simp [rd, List.getD]
theorem midi_lt (pre post : List Int) (x : Int) : (pre.length : Int) < ((pre ++ x :: post).length : Int) := by
  simp only [List.length_append, List.length_cons]
  omega
theorem rdl_mid (pre post : List (List S48)) (x : List S48) : rd_L3 (pre ++ x :: post) (pre.length : Int) = x := by simp [rd_L3, List.getD]
theorem midl_lt (pre post : List (List S48)) (x : List S48) : (pre.length : Int) < ((pre ++ x :: post).length : Int) := by
  simp only [List.length_append, List.length_cons]
  omega
def wd (c : Int) : Bool := if 97 ≤ c ∧ c ≤ 122 then true else if 48 ≤ c ∧ c ≤ 57 then true else if c = 95 then true else false
def wAll (s : ByteArray) : Nat → Nat → Bool
  | 0, _ => true
  | m + 1, i => if wd (bt s (i : Int)) = true then wAll s m (i + 1) else false
def nmOk (s : ByteArray) : Bool := if s.size = 0 then false else if 16 < s.size then false else if 97 ≤ bt s 0 ∧ bt s 0 ≤ 122 then wAll s s.size 0 else false
theorem w32 {x : Int} (h0 : 0 ≤ x) (h1 : x ≤ 255) : wrap32 x = x := by
  unfold wrap32
  omega
theorem nil_iff (s : ByteArray) : s.toList = ([] : List UInt8) ↔ s.size = 0 := by
  rw [ByteArray.toList_eq, ← List.length_eq_zero_iff, data_length]
theorem lex_letter_eq (c : Int) : lex_letter.f c = some (decide (97 ≤ c ∧ c ≤ 122)) := by
  unfold lex_letter.f
  by_cases h : 97 ≤ c <;> simp [h]
theorem lex_word_eq (c : Int) : lex_word.f c = some (wd c) := by
  unfold lex_word.f lex_digit.f wd
  rw [lex_letter_eq]
  by_cases h : 97 ≤ c ∧ c ≤ 122
  · simp [h]
  · by_cases h1 : 48 ≤ c
    · by_cases h2 : c ≤ 57
      · simp [h, h1, h2]
      · by_cases h3 : c = 95 <;> simp [h, h1, h2, h3]
    · by_cases h3 : c = 95 <;> simp [h, h1, h3]
theorem lex_Name_l0 (s : ByteArray) (hs : s.size ≤ 140737488351232) : ∀ (m i : Nat), i + m = s.size → Ev (fun k => lex_Name.l0 k s (s.size : Int) (i : Int)) (wAll s m i)
  | 0, i, h => by
    refine Ev.step (f := fun _ => some true) (fun k => ?_) (Ev.now _)
    simp only [lex_Name.l0]
    rw [if_neg (by omega)]
  | m + 1, i, h => by
    have hb := bt_range s (i : Int)
    have hst : ∀ k, lex_Name.l0 (k + 1) s (s.size : Int) (i : Int) = if wd (bt s (i : Int)) = true then lex_Name.l0 k s (s.size : Int) ((i + 1 : Nat) : Int) else some false := by
      intro k
      simp only [lex_Name.l0]
      rw [if_pos (by omega), if_pos (by omega), if_pos (by omega), lex_word_eq, w32 hb.1 hb.2, Option.bind_some, w64 (by omega) (by omega)]
      rfl
    unfold wAll
    by_cases c : wd (bt s (i : Int)) = true
    · rw [if_pos c]
      exact Ev.step (fun k => (hst k).trans (if_pos c)) (lex_Name_l0 s hs m (i + 1) (by omega))
    · rw [if_neg c]
      exact Ev.step (fun k => (hst k).trans (if_neg c)) (Ev.now _)
theorem lex_Name_ev (s : ByteArray) (hs : s.size ≤ 140737488351232) : Ev (fun k => lex_Name.f k s) (nmOk s) := by
  have hb := bt_range s 0
  have hj : Ev (fun k => lex_Name.j0 k s true) false := Ev.step (f := fun _ => some false) (fun k => by simp only [lex_Name.j0]; rfl) (Ev.now _)
  unfold nmOk
  by_cases h0 : s.size = 0
  · rw [if_pos h0]
    refine Ev.congr (fun k => ?_) hj
    unfold lex_Name.f
    rw [if_pos ((nil_iff s).2 h0)]
  · rw [if_neg h0]
    have hn : ¬ s.toList = [] := fun h => h0 ((nil_iff s).1 h)
    by_cases h1 : 16 < s.size
    · rw [if_pos h1]
      refine Ev.congr (fun k => ?_) hj
      unfold lex_Name.f
      rw [if_neg hn, if_pos (by omega)]
    · rw [if_neg h1]
      have e : ∀ k, lex_Name.f k s = lex_Name.j0 k s (!(decide (97 ≤ bt s 0 ∧ bt s 0 ≤ 122))) := by
        intro k
        unfold lex_Name.f
        rw [if_neg hn, if_neg (by omega), if_pos (by omega), lex_letter_eq, w32 hb.1 hb.2]
        rfl
      refine Ev.congr e ?_
      by_cases h2 : 97 ≤ bt s 0 ∧ bt s 0 ≤ 122
      · rw [if_pos h2, decide_eq_true h2]
        refine Ev.step (fun k => ?_) (lex_Name_l0 s hs s.size 0 (by omega))
        simp only [lex_Name.j0]
        rw [if_neg (by decide)]
        rfl
      · rw [if_neg h2, decide_eq_false h2]
        exact hj
def StrsOk (l : List ByteArray) : Prop := ∀ s ∈ l, s.size ≤ 140737488351232
def nmA : List ByteArray → Bool
  | [] => true
  | s :: l => if nmOk s = true then nmA l else false
theorem rds_mid (pre post : List ByteArray) (x : ByteArray) : rdOf ByteArray.empty (pre ++ x :: post) (pre.length : Int) = x := by simp [rdOf, List.getD]
theorem mids_lt (pre post : List ByteArray) (x : ByteArray) : (pre.length : Int) < ((pre ++ x :: post).length : Int) := by
  simp only [List.length_append, List.length_cons]
  omega
/-- The first place of a name, or -1. -/
def ixS (s : ByteArray) : Nat → List ByteArray → Int
  | _, [] => -1
  | n, t :: l => if s.toList = t.toList then (n : Int) else ixS s (n + 1) l
theorem Index_l0 (s : ByteArray) : ∀ (post pre : List ByteArray), (pre ++ post).length ≤ 140737488351232 →
    Ev (fun k => slices_Index_string.l0 k (pre ++ post) s ((pre ++ post).length : Int) (pre.length : Int)) (ixS s pre.length post)
  | [], pre, hl => by
    refine Ev.step (f := fun _ => some (-1)) (fun k => ?_) (Ev.now _)
    simp only [slices_Index_string.l0]
    rw [if_neg (by simp)]
  | x :: post, pre, hl => by
    have hlt := mids_lt pre post x
    have hn : pre.length ≤ 9223372036854775806 := by
      simp only [List.length_append, List.length_cons] at hl
      omega
    have hst : ∀ k, slices_Index_string.l0 (k + 1) (pre ++ x :: post) s ((pre ++ x :: post).length : Int) (pre.length : Int) = if s.toList = x.toList then some (pre.length : Int) else slices_Index_string.l0 k (pre ++ x :: post) s ((pre ++ x :: post).length : Int) ((pre ++ [x]).length : Int) := by
      intro k
      simp only [slices_Index_string.l0]
      rw [rds_mid, if_pos hlt, if_pos (by omega), if_pos hlt, succ_mid _ _ hn]
    unfold ixS
    by_cases c : s.toList = x.toList
    · rw [if_pos c]
      exact Ev.step (fun k => (hst k).trans (if_pos c)) (Ev.now _)
    · rw [if_neg c]
      have ih := Index_l0 s post (pre ++ [x]) (by simpa using hl)
      rw [← mid_snoc] at ih
      have e : (pre ++ [x]).length = pre.length + 1 := by simp
      rw [e] at ih
      refine Ev.step (fun k => (hst k).trans (if_neg c)) ?_
      rw [e]
      exact ih
theorem Index_ev (l : List ByteArray) (s : ByteArray) (hl : l.length ≤ 140737488351232) : Ev (fun k => slices_Index_string.f k l s) (ixS s 0 l) := Ev.congr (fun k => rfl) (Index_l0 s l [] (by simpa using hl))
theorem Contains_ev (l : List ByteArray) (s : ByteArray) (hl : l.length ≤ 140737488351232) : Ev (fun k => slices_Contains_string.f k l s) (decide (ixS s 0 l ≥ 0)) := Ev.bind (Index_ev l s hl) (Ev.now _)
def dupS : List ByteArray → List ByteArray → Bool
  | _, [] => false
  | pre, x :: post => if ixS x 0 pre ≥ 0 then true else dupS (pre ++ [x]) post
def nmsV (l : List ByteArray) : Int := if 16 < l.length then 6 else if l.length = 0 then 1 else if nmA l = true then (if dupS [] l = true then 9 else 0) else 4
theorem checkNames_l1 : ∀ (post pre : List ByteArray), (pre ++ post).length ≤ 140737488351232 →
    Ev (fun k => capture_checkNames.l1 k (pre ++ post) (pre ++ post) ((pre ++ post).length : Int) (pre.length : Int)) (if dupS pre post = true then 9 else 0)
  | [], pre, hl => by
    refine Ev.step (f := fun _ => some 0) (fun k => ?_) ?_
    · simp only [capture_checkNames.l1]
      rw [if_neg (by simp)]
    · rw [show (if dupS pre [] = true then (9 : Int) else 0) = 0 from rfl]
      exact Ev.now _
  | x :: post, pre, hl => by
    have hlt := mids_lt pre post x
    have hn : pre.length ≤ 9223372036854775806 := by
      simp only [List.length_append, List.length_cons] at hl
      omega
    have hp : pre.length ≤ 140737488351232 := by
      simp only [List.length_append, List.length_cons] at hl
      omega
    have hst : ∀ k, capture_checkNames.l1 (k + 1) (pre ++ x :: post) (pre ++ x :: post) ((pre ++ x :: post).length : Int) (pre.length : Int) = (slices_Contains_string.f k pre x).bind fun t111 => (if t111 = true then (some 9) else (capture_checkNames.l1 k (pre ++ x :: post) (pre ++ x :: post) ((pre ++ x :: post).length : Int) ((pre ++ [x]).length : Int))) := by
      intro k
      simp only [capture_checkNames.l1]
      rw [rds_mid, if_pos hlt, if_pos (by omega), if_pos hlt, if_pos (by omega), succ_mid _ _ hn, Int.toNat_natCast, List.take_left' rfl]
    refine Ev.step hst (Ev.bind (Contains_ev pre x hp) ?_)
    unfold dupS
    by_cases c : ixS x 0 pre ≥ 0
    · rw [if_pos c, decide_eq_true c]
      exact Ev.congr (fun k => if_pos rfl) (Ev.now _)
    · rw [if_neg c, decide_eq_false c]
      have ih := checkNames_l1 post (pre ++ [x]) (by simpa using hl)
      rw [← mid_snoc] at ih
      exact Ev.congr (fun k => if_neg (by decide)) ih
theorem checkNames_l0 : ∀ (post pre : List ByteArray) (R : Int), StrsOk post → (pre ++ post).length ≤ 140737488351232 → Ev (fun k => capture_checkNames.l1 k (pre ++ post) (pre ++ post) ((pre ++ post).length : Int) 0) R →
    Ev (fun k => capture_checkNames.l0 k (pre ++ post) (pre ++ post) ((pre ++ post).length : Int) (pre.length : Int)) (if nmA post = true then R else 4)
  | [], pre, R, hs, hl, hR => by
    refine Ev.step (fun k => ?_) (Ev.congr (fun k => rfl) hR)
    simp only [capture_checkNames.l0]
    rw [if_neg (by simp)]
  | x :: post, pre, R, hs, hl, hR => by
    have hlt := mids_lt pre post x
    have hn : pre.length ≤ 9223372036854775806 := by
      simp only [List.length_append, List.length_cons] at hl
      omega
    have hst : ∀ k, capture_checkNames.l0 (k + 1) (pre ++ x :: post) (pre ++ x :: post) ((pre ++ x :: post).length : Int) (pre.length : Int) = (lex_Name.f k x).bind fun t108 => (if t108 = true then (capture_checkNames.l0 k (pre ++ x :: post) (pre ++ x :: post) ((pre ++ x :: post).length : Int) ((pre ++ [x]).length : Int)) else (some 4)) := by
      intro k
      simp only [capture_checkNames.l0]
      rw [rds_mid, if_pos hlt, if_pos (by omega), if_pos hlt, succ_mid _ _ hn]
    refine Ev.step hst (Ev.bind (lex_Name_ev x (hs x (by simp))) ?_)
    unfold nmA
    by_cases c : nmOk x = true
    · rw [if_pos c, c]
      have ih := checkNames_l0 post (pre ++ [x]) R (fun y hy => hs y (by simp [hy])) (by simpa using hl) (by rw [← mid_snoc]; exact hR)
      rw [← mid_snoc] at ih
      exact Ev.congr (fun k => if_pos rfl) ih
    · rw [if_neg c, Bool.eq_false_iff.2 c]
      exact Ev.congr (fun k => if_neg (by decide)) (Ev.now _)
theorem checkNames_ev {l : List ByteArray} (hs : StrsOk l) (hl : l.length ≤ 140737488351232) (h16 : l.length ≤ 16) : Ev (fun k => capture_checkNames.f k l) (nmsV l) := by
  unfold nmsV
  rw [if_neg (by omega)]
  by_cases c : l.length = 0
  · rw [if_pos c]
    refine Ev.congr (fun k => ?_) (Ev.now _)
    unfold capture_checkNames.f
    rw [if_pos (by omega)]
  · rw [if_neg c]
    refine Ev.congr (fun k => ?_) (checkNames_l0 l [] _ hs (by simpa using hl) (checkNames_l1 l [] (by simpa using hl)))
    unfold capture_checkNames.f
    rw [if_neg (by omega)]
    rfl
/-- Levels from 0 to m, and at least one tick each. -/
def RunsM (m : Int) (l : List S48) : Prop := ∀ x ∈ l, 0 ≤ x.f0 ∧ x.f0 ≤ m ∧ 1 ≤ x.f1
def rOk (m : Int) : Int → List S48 → Bool
  | left, [] => true
  | left, x :: l => if 0 ≤ x.f0 ∧ x.f0 ≤ m ∧ 1 ≤ x.f1 ∧ x.f1 ≤ left then rOk m (left - x.f1) l else false
theorem RunsM.cons {m : Int} {x : S48} {l : List S48} (h : RunsM m (x :: l)) : (0 ≤ x.f0 ∧ x.f0 ≤ m ∧ 1 ≤ x.f1) ∧ RunsM m l := ⟨h x (by simp), fun y hy => h y (by simp [hy])⟩
theorem smM_nonneg {m : Int} : ∀ {l : List S48}, RunsM m l → 0 ≤ sm l
  | [], _ => Int.le_refl _
  | x :: l, h => by
    have h1 := h.cons
    have h2 := smM_nonneg h1.2
    simp only [sm]
    omega
theorem rOk_iff {m : Int} : ∀ {l : List S48} {left : Int}, 0 ≤ left → (rOk m left l = true ↔ RunsM m l ∧ sm l ≤ left)
  | [], left, h => by simp [rOk, RunsM, sm, h]
  | x :: l, left, h => by
    unfold rOk
    by_cases c : 0 ≤ x.f0 ∧ x.f0 ≤ m ∧ 1 ≤ x.f1 ∧ x.f1 ≤ left
    · rw [if_pos c, rOk_iff (l := l) (by omega)]
      simp only [RunsM, sm, List.mem_cons, forall_eq_or_imp]
      constructor
      · rintro ⟨h1, h2⟩
        exact ⟨⟨⟨c.1, c.2.1, c.2.2.1⟩, h1⟩, by omega⟩
      · rintro ⟨⟨h1, h2⟩, h3⟩
        exact ⟨h2, by omega⟩
    · rw [if_neg c]
      simp only [Bool.false_eq_true, false_iff]
      rintro ⟨h1, h2⟩
      have h3 := h1.cons
      have h4 := smM_nonneg h3.2
      simp only [sm] at h2
      exact c ⟨h3.1.1, h3.1.2.1, h3.1.2.2, by omega⟩
def mk (l : List ByteArray) : Int := wrap64 ((shl .i64 1 (l.length : Int)) - 1)
def chkV (l : List ByteArray) (r : List S48) : Int := if 262144 < r.length then 6 else if nmsV l = 0 then (if rOk (mk l) 1099511627776 r = true then 0 else 2) else nmsV l
theorem chk_0 {l : List ByteArray} {r : List S48} (h : chkV l r = 0) : r.length ≤ 262144 ∧ nmsV l = 0 ∧ RunsM (mk l) r ∧ sm r ≤ 1099511627776 := by
  unfold chkV at h
  by_cases c : 262144 < r.length
  · rw [if_pos c] at h
    omega
  · rw [if_neg c] at h
    by_cases c1 : nmsV l = 0
    · rw [if_pos c1] at h
      by_cases c2 : rOk (mk l) 1099511627776 r = true
      · exact ⟨by omega, c1, (rOk_iff (by omega)).1 c2⟩
      · rw [if_neg c2] at h
        omega
    · rw [if_neg c1] at h
      exact absurd h c1
theorem Check_l0 (m : Int) : ∀ (post pre : List S48) (left : Int), 0 ≤ left → left ≤ 1099511627776 → (pre ++ post).length ≤ 140737488351232 →
    Ev (fun k => capture_Check.l0 k m left (pre ++ post) ((pre ++ post).length : Int) (pre.length : Int)) (if rOk m left post = true then 0 else 2)
  | [], pre, left, h0, h1, hl => by
    rw [show (if rOk m left [] = true then (0 : Int) else 2) = 0 from rfl]
    refine Ev.step (f := fun _ => some 0) (fun k => ?_) (Ev.now _)
    simp only [capture_Check.l0]
    rw [if_neg (by simp)]
  | x :: post, pre, left, h0, h1, hl => by
    have hlt := mid_lt pre post x
    have hn : pre.length ≤ 9223372036854775806 := by
      simp only [List.length_append, List.length_cons] at hl
      omega
    unfold rOk
    by_cases c : 0 ≤ x.f0 ∧ x.f0 ≤ m ∧ 1 ≤ x.f1 ∧ x.f1 ≤ left
    · have ih := Check_l0 m post (pre ++ [x]) (left - x.f1) (by omega) (by omega) (by simpa using hl)
      rw [← mid_snoc] at ih
      rw [if_pos c]
      refine Ev.step (fun k => ?_) ih
      simp only [capture_Check.l0]
      rw [rd_mid, if_pos hlt, if_pos (by omega), if_pos hlt, if_neg (by omega), if_neg (by omega), if_neg (by omega), if_neg (by omega), w64 (by omega) (by omega), succ_mid _ _ hn]
    · rw [if_neg c, show (if false = true then (0 : Int) else 2) = 2 from rfl]
      refine Ev.step (f := fun _ => some 2) (fun k => ?_) (Ev.now _)
      simp only [capture_Check.l0]
      rw [rd_mid, if_pos hlt, if_pos (by omega), if_pos hlt]
      by_cases c1 : x.f0 < 0
      · rw [if_pos c1]
      · rw [if_neg c1]
        by_cases c2 : x.f0 > m
        · rw [if_pos c2]
        · rw [if_neg c2]
          by_cases c3 : x.f1 < 1
          · rw [if_pos c3]
          · rw [if_neg c3, if_pos (by omega)]
theorem Check_ev {l : List ByteArray} {r : List S48} (hs : StrsOk l) (hl : l.length ≤ 140737488351232) (hr : r.length ≤ 140737488351232) : Ev (fun k => capture_Check.f k l r) (chkV l r) := by
  have hj : Ev (fun k => capture_Check.j0 k true l r) 6 := Ev.step (f := fun _ => some 6) (fun k => by simp only [capture_Check.j0]; rfl) (Ev.now _)
  by_cases c : 16 < l.length
  · have e : chkV l r = 6 := by
      have e1 : nmsV l = 6 := by
        unfold nmsV
        rw [if_pos c]
      unfold chkV
      rw [e1]
      by_cases c1 : 262144 < r.length
      · rw [if_pos c1]
      · rw [if_neg c1]
        rfl
    rw [e]
    refine Ev.congr (fun k => ?_) hj
    unfold capture_Check.f
    rw [if_pos (by omega)]
  · have e : ∀ k, capture_Check.f k l r = capture_Check.j0 k (decide ((r.length : Int) > 262144)) l r := by
      intro k
      unfold capture_Check.f
      rw [if_neg (by omega)]
    refine Ev.congr e ?_
    unfold chkV
    by_cases c1 : 262144 < r.length
    · rw [if_pos c1, decide_eq_true (by omega)]
      exact hj
    · rw [if_neg c1, decide_eq_false (by omega)]
      refine Ev.step (f := fun k => (capture_checkNames.f k l).bind fun t113 => (if t113 = 0 then (capture_Check.l0 k (mk l) 1099511627776 r (r.length : Int) 0) else (some t113))) (fun k => ?_) (Ev.bind (checkNames_ev hs hl (by omega)) ?_)
      · simp only [capture_Check.j0]
        rw [if_neg (by decide)]
        rfl
      · by_cases c2 : nmsV l = 0
        · rw [if_pos c2]
          exact Ev.congr (fun k => if_pos c2) (Check_l0 (mk l) r [] 1099511627776 (by omega) (by omega) (by simpa using hr))
        · rw [if_neg c2]
          exact Ev.congr (fun k => if_neg c2) (Ev.now _)
theorem long_l0 {m : Int} : ∀ (post pre : List S48) (s : Int), 0 ≤ s → s + sm post ≤ 4611686018427387904 → RunsM m post → (pre ++ post).length ≤ 140737488351232 →
    Ev (fun k => capture_long.l0 k s (pre ++ post) ((pre ++ post).length : Int) (pre.length : Int)) (s + sm post)
  | [], pre, s, h0, h1, hw, hl => by
    refine Ev.step (f := fun _ => some s) (fun k => ?_) ?_
    · simp only [capture_long.l0]
      rw [if_neg (by simp)]
    · simp only [sm, Int.add_zero]
      exact Ev.now _
  | x :: post, pre, s, h0, h1, hw, hl => by
    have hx := hw.cons
    have hs := smM_nonneg hx.2
    simp only [sm] at h1
    have hlt := mid_lt pre post x
    have hn : pre.length ≤ 9223372036854775806 := by
      simp only [List.length_append, List.length_cons] at hl
      omega
    have ih := long_l0 post (pre ++ [x]) (s + x.f1) (by omega) (by omega) hx.2 (by simpa using hl)
    rw [← mid_snoc] at ih
    have e1 : s + sm (x :: post) = s + x.f1 + sm post := by
      simp only [sm]
      omega
    rw [e1]
    refine Ev.step (fun k => ?_) ih
    simp only [capture_long.l0]
    rw [rd_mid, if_pos hlt, if_pos (by omega), if_pos hlt, w64 (x := s + x.f1) (by omega) (by omega), succ_mid _ _ hn]
theorem long_ev {m : Int} {r : List S48} (h : RunsM m r) (hs : sm r ≤ 1099511627776) (hr : r.length ≤ 140737488351232) : Ev (fun k => capture_long.f k r) (sm r) := by
  have h := long_l0 r [] 0 (by omega) (by omega) h (by simpa using hr)
  rw [Int.zero_add] at h
  exact Ev.congr (fun k => rfl) h
def longC (l : List ByteArray) (r : List S48) : Int := if chkV l r = 0 then sm r else 0
theorem Long_ev {l : List ByteArray} {r : List S48} (hs : StrsOk l) (hl : l.length ≤ 140737488351232) (hr : r.length ≤ 140737488351232) : Ev (fun k => capture_Long.f k l r) (longC l r) := by
  unfold longC
  refine Ev.bind (Check_ev hs hl hr) ?_
  by_cases c : chkV l r = 0
  · have h := chk_0 c
    rw [if_pos c]
    exact Ev.congr (fun k => if_pos c) (Ev.bind (long_ev h.2.2.1 h.2.2.2 hr) (Ev.now _))
  · rw [if_neg c]
    exact Ev.congr (fun k => if_neg c) (Ev.now _)
theorem lives09_ev : Ev (fun k => signalbenchlaw09_lives.f k) true := Ev.of (k := 60) (fun k => signalbenchlaw09_lives.mono k) (by decide +kernel)
def fewV (l : List ByteArray) (r : List S48) : Bool := decide (l.length ≤ 100 ∧ r.length ≤ 2000)
theorem few09_eq (l : List ByteArray) (r : List S48) : signalbenchlaw09_few.f l r = some (fewV l r) := by
  unfold signalbenchlaw09_few.f fewV
  by_cases c : l.length ≤ 100
  · rw [if_pos (by omega)]
    by_cases c1 : r.length ≤ 2000
    · rw [decide_eq_true (by omega), decide_eq_true ⟨c, c1⟩]
    · rw [decide_eq_false (by omega), decide_eq_false (fun h => c1 h.2)]
  · rw [if_neg (by omega), decide_eq_false (fun h => c h.1)]
/-- A run put behind runs. -/
def putR (o : List S48) (v t : Int) : List S48 :=
  match o.getLast? with
  | some y => if y.f0 = v then o.dropLast ++ [(⟨y.f0, y.f1 + t⟩ : S48)] else o ++ [(⟨v, t⟩ : S48)]
  | none => [(⟨v, t⟩ : S48)]
theorem putR_nil (v t : Int) : putR [] v t = [⟨v, t⟩] := rfl
theorem putR_same (o : List S48) (y : S48) (t : Int) : putR (o ++ [y]) y.f0 t = o ++ [⟨y.f0, y.f1 + t⟩] := by
  simp [putR]
theorem putR_new (o : List S48) (y : S48) {v t : Int} (h : ¬ y.f0 = v) : putR (o ++ [y]) v t = o ++ [y] ++ [⟨v, t⟩] := by
  simp [putR, h]
theorem snoc_cases {α : Type} (o : List α) : o = [] ∨ ∃ q y, o = q ++ [y] := by
  rcases List.eq_nil_or_concat o with h | ⟨q, y, h⟩
  · exact .inl h
  · exact .inr ⟨q, y, by simpa using h⟩
theorem join_eq {o : List S48} {v t : Int} (ho : o.length < 8796093022208) (h0 : 0 ≤ t) (hs : ∀ y ∈ o, 0 ≤ y.f1 ∧ y.f1 + t ≤ 9223372036854775807) : capture_join.f o v t = some (putR o v t) := by
  rcases snoc_cases o with rfl | ⟨q, y, rfl⟩
  · unfold capture_join.f
    rw [if_neg (by simp), if_pos (by simp)]
    rfl
  · have hy := hs y (by simp)
    have hq : q.length ≤ 9223372036854775806 := by
      simp only [List.length_append, List.length_cons, List.length_nil] at ho
      omega
    have hlt : (q.length : Int) < ((q ++ [y]).length : Int) := mid_lt q [] y
    unfold capture_join.f
    rw [last_at q y hq, rd_last, if_pos (by omega), if_pos (by omega), if_pos hlt]
    by_cases c : y.f0 = v
    · rw [if_pos c, set_last, w64 (by omega) (by omega), ← c, putR_same]
    · rw [if_neg c, if_pos ho, putR_new q y c]
theorem putR_sm (o : List S48) (v t : Int) : sm (putR o v t) = sm o + t := by
  rcases snoc_cases o with rfl | ⟨q, y, rfl⟩
  · simp [putR_nil, sm]
  · by_cases c : y.f0 = v
    · rw [← c, putR_same]
      simp only [sm_append, sm]
      omega
    · rw [putR_new q y c]
      simp only [sm_append, sm]
      omega
theorem putR_len (o : List S48) (v t : Int) : (putR o v t).length ≤ o.length + 1 := by
  rcases snoc_cases o with rfl | ⟨q, y, rfl⟩
  · simp [putR_nil]
  · by_cases c : y.f0 = v
    · rw [← c, putR_same]
      simp
    · rw [putR_new q y c]
      simp
theorem putR_ok {m : Int} {o : List S48} {v t : Int} (h : RunsM m o) (hv : 0 ≤ v ∧ v ≤ m) (ht : 1 ≤ t) : RunsM m (putR o v t) := by
  rcases snoc_cases o with rfl | ⟨q, y, rfl⟩
  · intro x hx
    rw [putR_nil, List.mem_singleton] at hx
    subst hx
    exact ⟨hv.1, hv.2, ht⟩
  · have hy := h y (by simp)
    by_cases c : y.f0 = v
    · rw [← c, putR_same]
      intro x hx
      rcases List.mem_append.1 hx with hx | hx
      · exact h x (by simp [hx])
      · rw [List.mem_singleton] at hx
        subst hx
        exact ⟨hy.1, hy.2.1, by show 1 ≤ y.f1 + t; omega⟩
    · rw [putR_new q y c]
      intro x hx
      rcases List.mem_append.1 hx with hx | hx
      · exact h x hx
      · rw [List.mem_singleton] at hx
        subst hx
        exact ⟨hv.1, hv.2, ht⟩
/-- Each run has at most the sum of all. -/
theorem le_sm {m : Int} : ∀ {l : List S48}, RunsM m l → ∀ y ∈ l, 0 ≤ y.f1 ∧ y.f1 ≤ sm l
  | [], h, y, hy => by simp at hy
  | x :: l, h, y, hy => by
    have hx := h.cons
    have h0 := smM_nonneg hx.2
    simp only [sm]
    rcases List.mem_cons.1 hy with rfl | hy
    · omega
    · have := le_sm hx.2 y hy
      omega
def cln : List S48 → List S48 → List S48
  | o, [] => o
  | o, x :: l => cln (putR o x.f0 x.f1) l
theorem cln_len : ∀ (l o : List S48), (cln o l).length ≤ o.length + l.length
  | [], o => by simp [cln]
  | x :: l, o => by
    have := cln_len l (putR o x.f0 x.f1)
    have := putR_len o x.f0 x.f1
    simp only [cln, List.length_cons]
    omega
theorem clean_l0 {m : Int} : ∀ (post pre o : List S48), RunsM m o → RunsM m post → sm o + sm post ≤ 1099511627776 → (pre ++ post).length ≤ 262144 → o.length + post.length ≤ 262144 →
    Ev (fun k => capture_clean.l0 k o (pre ++ post) ((pre ++ post).length : Int) (pre.length : Int)) (cln o post)
  | [], pre, o, h0, h1, hs, hl, ho => by
    refine Ev.step (f := fun _ => some o) (fun k => ?_) (Ev.now _)
    simp only [capture_clean.l0]
    rw [if_neg (by simp)]
  | x :: post, pre, o, h0, h1, hs, hl, ho => by
    have hx := h1.cons
    have h2 := smM_nonneg hx.2
    have h3 := smM_nonneg h0
    simp only [sm] at hs
    simp only [List.length_cons] at ho
    have hlt := mid_lt pre post x
    have hn : pre.length ≤ 9223372036854775806 := by
      simp only [List.length_append, List.length_cons] at hl
      omega
    have hj : capture_join.f o x.f0 x.f1 = some (putR o x.f0 x.f1) := join_eq (by omega) (by omega) (fun y hy => by have := le_sm h0 y hy; omega)
    have ih := clean_l0 post (pre ++ [x]) (putR o x.f0 x.f1) (putR_ok h0 ⟨hx.1.1, hx.1.2.1⟩ hx.1.2.2) hx.2 (by rw [putR_sm]; omega) (by simpa using hl) (by have := putR_len o x.f0 x.f1; omega)
    rw [← mid_snoc] at ih
    refine Ev.step (fun k => ?_) ih
    simp only [capture_clean.l0]
    rw [rd_mid, if_pos hlt, if_pos (by omega), if_pos hlt, hj, Option.bind_some, succ_mid _ _ hn]
theorem clean_ev {m : Int} {r : List S48} (h : RunsM m r) (hs : sm r ≤ 1099511627776) (hr : r.length ≤ 262144) : Ev (fun k => capture_clean.f k r) (cln [] r) :=
  Ev.congr (fun k => rfl) (clean_l0 r [] [] (fun x hx => by simp at hx) h (by simp only [sm]; omega) (by simpa using hr) (by simpa using hr))
def eqR : List S48 → List S48 → Bool
  | [], _ => true
  | _ :: _, [] => false
  | x :: a, y :: b => if x.f0 = y.f0 ∧ x.f1 = y.f1 then eqR a b else false
theorem rne_iff (x y : S48) : (!((x.f0) == (y.f0)) || (!((x.f1) == (y.f1)))) = true ↔ ¬ (x.f0 = y.f0 ∧ x.f1 = y.f1) := by
  by_cases h : x.f0 = y.f0 <;> by_cases h' : x.f1 = y.f1 <;> simp [h, h']
theorem eqR_refl : ∀ (a : List S48), eqR a a = true
  | [] => rfl
  | x :: a => by
    unfold eqR
    rw [if_pos ⟨rfl, rfl⟩]
    exact eqR_refl a
theorem EqualRun_l0 : ∀ (p q a b : List S48), p.length = q.length → a.length = b.length → (p ++ a).length ≤ 140737488351232 →
    Ev (fun k => slices_Equal_Run.l0 k (p ++ a) (q ++ b) ((p ++ a).length : Int) (p.length : Int)) (eqR a b)
  | p, q, [], b, hp, hab, hl => by
    refine Ev.step (f := fun _ => some true) (fun k => ?_) (Ev.now _)
    simp only [slices_Equal_Run.l0]
    rw [if_neg (by simp)]
  | p, q, x :: a, [], hp, hab, hl => by simp at hab
  | p, q, x :: a, y :: b, hp, hab, hl => by
    have hlt := mid_lt p a x
    have hlt2 := mid_lt q b y
    have hn : p.length ≤ 9223372036854775806 := by
      simp only [List.length_append, List.length_cons] at hl
      omega
    have e2 : rd_T48 (q ++ y :: b) (p.length : Int) = y := by
      rw [hp]
      exact rd_mid q b y
    have hst : ∀ k, slices_Equal_Run.l0 (k + 1) (p ++ x :: a) (q ++ y :: b) ((p ++ x :: a).length : Int) (p.length : Int) = if (!((x.f0) == (y.f0)) || (!((x.f1) == (y.f1)))) = true then some false else slices_Equal_Run.l0 k (p ++ x :: a) (q ++ y :: b) ((p ++ x :: a).length : Int) ((p ++ [x]).length : Int) := by
      intro k
      simp only [slices_Equal_Run.l0]
      rw [rd_mid, e2, if_pos hlt, if_pos (by omega), if_pos hlt, if_pos (by rw [hp]; exact hlt2), succ_mid _ _ hn]
    unfold eqR
    by_cases c : x.f0 = y.f0 ∧ x.f1 = y.f1
    · rw [if_pos c]
      have ih := EqualRun_l0 (p ++ [x]) (q ++ [y]) a b (by simp [hp]) (by simpa using hab) (by simpa using hl)
      rw [← mid_snoc, ← mid_snoc] at ih
      exact Ev.step (fun k => (hst k).trans (if_neg (fun h => (rne_iff x y).1 h c))) ih
    · rw [if_neg c]
      exact Ev.step (fun k => (hst k).trans (if_pos ((rne_iff x y).2 c))) (Ev.now _)
def eqRV (a b : List S48) : Bool := if a.length = b.length then eqR a b else false
theorem EqualRun_ev {a b : List S48} (hl : a.length ≤ 140737488351232) : Ev (fun k => slices_Equal_Run.f k a b) (eqRV a b) := by
  unfold eqRV
  by_cases c : a.length = b.length
  · rw [if_pos c]
    refine Ev.congr (fun k => ?_) (EqualRun_l0 [] [] a b rfl c (by simpa using hl))
    unfold slices_Equal_Run.f
    rw [if_pos (by omega)]
    rfl
  · rw [if_neg c]
    refine Ev.congr (fun k => ?_) (Ev.now _)
    unfold slices_Equal_Run.f
    rw [if_neg (by omega)]
def eqS : List ByteArray → List ByteArray → Bool
  | [], _ => true
  | _ :: _, [] => false
  | x :: a, y :: b => if x.toList = y.toList then eqS a b else false
theorem eqS_refl : ∀ (a : List ByteArray), eqS a a = true
  | [] => rfl
  | x :: a => by
    unfold eqS
    rw [if_pos rfl]
    exact eqS_refl a
theorem EqualStr_l0 : ∀ (p q a b : List ByteArray), p.length = q.length → a.length = b.length → (p ++ a).length ≤ 140737488351232 →
    Ev (fun k => slices_Equal_string.l0 k (p ++ a) (q ++ b) ((p ++ a).length : Int) (p.length : Int)) (eqS a b)
  | p, q, [], b, hp, hab, hl => by
    refine Ev.step (f := fun _ => some true) (fun k => ?_) (Ev.now _)
    simp only [slices_Equal_string.l0]
    rw [if_neg (by simp)]
  | p, q, x :: a, [], hp, hab, hl => by simp at hab
  | p, q, x :: a, y :: b, hp, hab, hl => by
    have hlt := mids_lt p a x
    have hlt2 := mids_lt q b y
    have hn : p.length ≤ 9223372036854775806 := by
      simp only [List.length_append, List.length_cons] at hl
      omega
    have e2 : rdOf ByteArray.empty (q ++ y :: b) (p.length : Int) = y := by
      rw [hp]
      exact rds_mid q b y
    have hst : ∀ k, slices_Equal_string.l0 (k + 1) (p ++ x :: a) (q ++ y :: b) ((p ++ x :: a).length : Int) (p.length : Int) = if x.toList = y.toList then slices_Equal_string.l0 k (p ++ x :: a) (q ++ y :: b) ((p ++ x :: a).length : Int) ((p ++ [x]).length : Int) else some false := by
      intro k
      simp only [slices_Equal_string.l0]
      rw [rds_mid, e2, if_pos hlt, if_pos (by omega), if_pos hlt, if_pos (by rw [hp]; exact hlt2), succ_mid _ _ hn]
    unfold eqS
    by_cases c : x.toList = y.toList
    · rw [if_pos c]
      have ih := EqualStr_l0 (p ++ [x]) (q ++ [y]) a b (by simp [hp]) (by simpa using hab) (by simpa using hl)
      rw [← mid_snoc, ← mid_snoc] at ih
      exact Ev.step (fun k => (hst k).trans (if_pos c)) ih
    · rw [if_neg c]
      exact Ev.step (fun k => (hst k).trans (if_neg c)) (Ev.now _)
def eqSV (a b : List ByteArray) : Bool := if a.length = b.length then eqS a b else false
theorem EqualStr_ev {a b : List ByteArray} (hl : a.length ≤ 140737488351232) : Ev (fun k => slices_Equal_string.f k a b) (eqSV a b) := by
  unfold eqSV
  by_cases c : a.length = b.length
  · rw [if_pos c]
    refine Ev.congr (fun k => ?_) (EqualStr_l0 [] [] a b rfl c (by simpa using hl))
    unfold slices_Equal_string.f
    rw [if_pos (by omega)]
    rfl
  · rw [if_neg c]
    refine Ev.congr (fun k => ?_) (Ev.now _)
    unfold slices_Equal_string.f
    rw [if_neg (by omega)]
/-- Same, of the program and of the reference. -/
def samV (a : List ByteArray) (r : List S48) (b : List ByteArray) (s : List S48) : Bool :=
  if chkV a r = 0 ∧ chkV b s = 0 ∧ eqSV a b = true then eqRV (cln [] r) (cln [] s) else false
theorem Same_ev {a b : List ByteArray} {r s : List S48} (ha : StrsOk a) (hb : StrsOk b) (hla : a.length ≤ 140737488351232) (hlb : b.length ≤ 140737488351232) (hr : r.length ≤ 140737488351232) (hs : s.length ≤ 140737488351232) :
    Ev (fun k => capture_Same.f k a r b s) (samV a r b s) := by
  have hj : Ev (fun k => capture_Same.j0 k true a r b s) false := Ev.step (f := fun _ => some false) (fun k => by simp only [capture_Same.j0]; rfl) (Ev.now _)
  unfold samV
  refine Ev.bind (Check_ev ha hla hr) ?_
  by_cases c : chkV a r = 0
  · refine Ev.congr (fun k => if_pos c) (Ev.bind (Check_ev hb hlb hs) ?_)
    by_cases c1 : chkV b s = 0
    · refine Ev.congr (fun k => if_pos c1) (Ev.bind (EqualStr_ev hla) ?_)
      by_cases c2 : eqSV a b = true
      · have h := chk_0 c
        have h' := chk_0 c1
        rw [if_pos ⟨c, c1, c2⟩, c2]
        refine Ev.step (f := fun k => (capture_clean.f k r).bind fun t406 => ((capture_clean.f k s).bind fun t409 => ((slices_Equal_Run.f k t406 t409).bind fun t412 => (some t412)))) (fun k => ?_) (Ev.bind (clean_ev h.2.2.1 h.2.2.2 h.1) (Ev.bind (clean_ev h'.2.2.1 h'.2.2.2 h'.1) (Ev.bind (EqualRun_ev ?_) (Ev.now _))))
        · simp only [capture_Same.j0]
          rw [if_neg (by decide)]
        · have := cln_len r []
          simp only [List.length_nil] at this
          omega
      · rw [if_neg (fun h => c2 h.2.2), Bool.eq_false_iff.2 c2]
        exact hj
    · rw [if_neg (fun h => c1 h.2.1)]
      exact Ev.congr (fun k => if_neg c1) hj
  · rw [if_neg (fun h => c h.1)]
    exact Ev.congr (fun k => if_neg c) hj
theorem mn_le (a b : Int) : mn a b ≤ a ∧ mn a b ≤ b ∧ (mn a b = a ∨ mn a b = b) := by
  unfold mn
  by_cases c : b < a
  · rw [if_pos c]
    omega
  · rw [if_neg c]
    omega
theorem chkV_of {l : List ByteArray} {r : List S48} (h : r.length ≤ 262144) (h1 : nmsV l = 0) (h2 : RunsM (mk l) r) (h3 : sm r ≤ 1099511627776) : chkV l r = 0 := by
  unfold chkV
  rw [if_neg (by omega), if_pos h1, if_pos ((rOk_iff (by omega)).2 ⟨h2, h3⟩)]
def Tk (l : List S48) : Prop := ∀ y ∈ l, 1 ≤ y.f1
theorem RunsM.tk {m : Int} {l : List S48} (h : RunsM m l) : Tk l := fun y hy => (h y hy).2.2
theorem Tk.cons {x : S48} {l : List S48} (h : Tk (x :: l)) : 1 ≤ x.f1 ∧ Tk l := ⟨h x (by simp), fun y hy => h y (by simp [hy])⟩
theorem smT_nonneg : ∀ {l : List S48}, Tk l → 0 ≤ sm l
  | [], _ => Int.le_refl _
  | x :: l, h => by
    have h1 := h.cons
    have h2 := smT_nonneg h1.2
    simp only [sm]
    omega
theorem leT_sm : ∀ {l : List S48}, Tk l → ∀ y ∈ l, 0 ≤ y.f1 ∧ y.f1 ≤ sm l
  | [], h, y, hy => by simp at hy
  | x :: l, h, y, hy => by
    have hx := h.cons
    have h0 := smT_nonneg hx.2
    simp only [sm]
    rcases List.mem_cons.1 hy with rfl | hy
    · omega
    · have := leT_sm hx.2 y hy
      omega
theorem putR_tk {o : List S48} {v t : Int} (h : Tk o) (ht : 1 ≤ t) : Tk (putR o v t) := by
  rcases snoc_cases o with rfl | ⟨q, y, rfl⟩
  · intro x hx
    rw [putR_nil, List.mem_singleton] at hx
    subst hx
    exact ht
  · have hy := h y (by simp)
    by_cases c : y.f0 = v
    · rw [← c, putR_same]
      intro x hx
      rcases List.mem_append.1 hx with hx | hx
      · exact h x (by simp [hx])
      · rw [List.mem_singleton] at hx
        subst hx
        show 1 ≤ y.f1 + t
        omega
    · rw [putR_new q y c]
      intro x hx
      rcases List.mem_append.1 hx with hx | hx
      · exact h x hx
      · rw [List.mem_singleton] at hx
        subst hx
        exact ht
def bit (v i : Int) : Int := Go.bits .and .i64 (shr .i64 v i) 1
def chC (i : Int) : List S48 → List S48 → List S48
  | o, [] => o
  | o, x :: l => chC i (putR o (bit x.f0 i) x.f1) l
theorem Channel_l0 {i : Int} (hi : 0 ≤ i) : ∀ (post pre o : List S48), Tk o → Tk post → sm o + sm post ≤ 1099511627776 → (pre ++ post).length ≤ 262144 → o.length + post.length ≤ 262144 →
    Ev (fun k => capture_Channel.l0 k i o (pre ++ post) ((pre ++ post).length : Int) (pre.length : Int)) (chC i o post, 0)
  | [], pre, o, h0, h1, hs, hl, ho => by
    refine Ev.step (f := fun _ => some (o, 0)) (fun k => ?_) (Ev.now _)
    simp only [capture_Channel.l0]
    rw [if_neg (by simp)]
  | x :: post, pre, o, h0, h1, hs, hl, ho => by
    have hx := h1.cons
    have h2 := smT_nonneg hx.2
    have h3 := smT_nonneg h0
    simp only [sm] at hs
    simp only [List.length_cons] at ho
    have hlt := mid_lt pre post x
    have hn : pre.length ≤ 9223372036854775806 := by
      simp only [List.length_append, List.length_cons] at hl
      omega
    have hj : capture_join.f o (Go.bits .and .i64 (shr .i64 x.f0 i) 1) x.f1 = some (putR o (bit x.f0 i) x.f1) := join_eq (by omega) (by omega) (fun y hy => by have := leT_sm h0 y hy; omega)
    have ih := Channel_l0 hi post (pre ++ [x]) (putR o (bit x.f0 i) x.f1) (putR_tk h0 hx.1) hx.2 (by rw [putR_sm]; omega) (by simpa using hl) (by have := putR_len o (bit x.f0 i) x.f1; omega)
    rw [← mid_snoc] at ih
    refine Ev.step (fun k => ?_) ih
    simp only [capture_Channel.l0]
    rw [rd_mid, if_pos hlt, if_pos (by omega), if_pos hlt, if_pos hi, hj, Option.bind_some, succ_mid _ _ hn]
def chV (l : List ByteArray) (r : List S48) (s : ByteArray) : List S48 × Int := if chkV l r = 0 then (if ixS s 0 l < 0 then ([], 8) else (chC (ixS s 0 l) [] r, 0)) else ([], chkV l r)
theorem Channel_ev {l : List ByteArray} {r : List S48} {s : ByteArray} (hs : StrsOk l) (hl : l.length ≤ 140737488351232) (hr : r.length ≤ 140737488351232) : Ev (fun k => capture_Channel.f k l r s) (chV l r s) := by
  unfold chV
  refine Ev.bind (Check_ev hs hl hr) ?_
  by_cases c : chkV l r = 0
  · have h := chk_0 c
    rw [if_pos c]
    refine Ev.congr (fun k => if_pos c) (Ev.bind (Index_ev l s hl) ?_)
    by_cases c1 : ixS s 0 l < 0
    · rw [if_pos c1]
      exact Ev.congr (fun k => if_pos c1) (Ev.now _)
    · rw [if_neg c1]
      exact Ev.congr (fun k => if_neg c1) (Channel_l0 (by omega) r [] [] (fun x hx => by simp at hx) h.2.2.1.tk (by simp only [sm]; omega) (by simpa using h.1) (by simpa using h.1))
  · rw [if_neg c]
    exact Ev.congr (fun k => if_neg c) (Ev.now _)
theorem wrapN {n : Nat} (h : n < 9223372036854775808) : IntKind.i64.wrap (n : Int) = (n : Int) := by
  rw [IntKind.wrap_i64]
  omega
theorem ofIntN {n : Nat} (h : n < 9223372036854775808) : (BitVec.ofInt 64 (n : Int)).toNat = n := by
  rw [BitVec.toNat_ofInt]
  omega
theorem bitN {a i : Nat} (ha : a < 65536) (hi : i < 64) : bit (a : Int) (i : Int) = if a.testBit i = true then 1 else 0 := by
  have e0 : shr .i64 (a : Int) (i : Int) = ((a / 2 ^ i : Nat) : Int) := by
    show (a : Int) / 2 ^ min ((i : Int).toNat) IntKind.i64.bits = _
    rw [Int.toNat_natCast, show IntKind.i64.bits = 64 from rfl, Nat.min_eq_left (by omega)]
    norm_cast
  have h1 : a / 2 ^ i ≤ a := Nat.div_le_self _ _
  have e1 : bit (a : Int) (i : Int) = IntKind.i64.wrap (((BitVec.ofInt 64 (shr .i64 (a : Int) (i : Int)) &&& BitVec.ofInt 64 1).toNat : Nat) : Int) := rfl
  have e2 : (BitVec.ofInt 64 1).toNat = 1 := rfl
  rw [e1, BitVec.toNat_and, e0, ofIntN (by omega), e2, Nat.and_one_is_mod, wrapN (by omega), Nat.testBit_eq_decide_div_mod_eq]
  by_cases c : a / 2 ^ i % 2 = 1
  · rw [if_pos (by simpa using c), c]
    rfl
  · rw [if_neg (by simpa using c), show a / 2 ^ i % 2 = 0 by omega]
    rfl
theorem mk_le {l : List ByteArray} (h : l.length ≤ 16) : mk l ≤ 65535 := by
  obtain ⟨n, hn⟩ : ∃ n, n = l.length := ⟨_, rfl⟩
  unfold mk
  rw [← hn] at h ⊢
  clear hn
  have : ∀ n : Fin 17, wrap64 ((shl .i64 1 ((n.val : Nat) : Int)) - 1) ≤ 65535 := by decide +kernel
  exact this ⟨n, by omega⟩
def hd (w : List S48) : S48 := w.headD (⟨0, 0⟩ : S48)
def lvl : Int → Nat → List (List S48) → Int
  | v, _, [] => v
  | v, i, w :: ws => lvl (Go.bits .or .i64 v (shl .i64 (hd w).f0 (i : Int))) (i + 1) ws
def stp : Int → List (List S48) → Int
  | s, [] => s
  | s, w :: ws => stp (mn s (hd w).f1) ws
def cutR (s : Int) : List S48 → List S48
  | [] => []
  | x :: l => if x.f1 = s then l else (⟨x.f0, x.f1 - s⟩ : S48) :: l
theorem cutR_cons (s : Int) (x : S48) (l : List S48) : cutR s (x :: l) = if x.f1 = s then l else (⟨x.f0, x.f1 - s⟩ : S48) :: l := rfl
def mrg : Nat → List S48 → List (List S48) → List S48
  | 0, o, _ => o
  | n + 1, o, ws => if ws.headD [] = [] then o else mrg n (putR o (lvl 0 0 ws) (stp 1099511627776 ws)) (ws.map (cutR (stp 1099511627776 ws)))
/-- Waves that all have T ticks. -/
def Rem (T : Int) (ws : List (List S48)) : Prop := ∀ w ∈ ws, Tk w ∧ sm w = T
theorem Rem.cons {T : Int} {w : List S48} {ws : List (List S48)} (h : Rem T (w :: ws)) : (Tk w ∧ sm w = T) ∧ Rem T ws := ⟨h w (by simp), fun y hy => h y (by simp [hy])⟩
theorem hd_cons (x : S48) (l : List S48) : hd (x :: l) = x := rfl
theorem nonempty_of {w : List S48} (h : 0 < sm w) : ∃ x l, w = x :: l := by
  cases w with
  | nil => simp [sm] at h
  | cons x l => exact ⟨x, l, rfl⟩
theorem empty_of {w : List S48} (ht : Tk w) (h : sm w ≤ 0) : w = [] := by
  cases w with
  | nil => rfl
  | cons x l =>
    have h1 := ht.cons
    have h2 := smT_nonneg h1.2
    simp only [sm] at h
    omega
theorem hd_ok {T : Int} {w : List S48} (h : Tk w ∧ sm w = T) (hT : 0 < T) : 1 ≤ (hd w).f1 ∧ (hd w).f1 ≤ T := by
  obtain ⟨x, l, rfl⟩ := nonempty_of (w := w) (by omega)
  have h1 := h.1.cons
  have h2 := smT_nonneg h1.2
  have h3 := h.2
  simp only [sm] at h3
  rw [hd_cons]
  omega
theorem le_mn {a b c : Int} (h : c ≤ a) (h' : c ≤ b) : c ≤ mn a b := by
  unfold mn
  split <;> omega
theorem stp_le : ∀ (ws : List (List S48)) (s : Int), stp s ws ≤ s ∧ ∀ w ∈ ws, stp s ws ≤ (hd w).f1
  | [], s => ⟨Int.le_refl _, fun w hw => by simp at hw⟩
  | w :: ws, s => by
    have h := stp_le ws (mn s (hd w).f1)
    have h' := mn_le s (hd w).f1
    unfold stp
    refine ⟨by omega, fun y hy => ?_⟩
    rcases List.mem_cons.1 hy with rfl | hy
    · omega
    · exact h.2 y hy
theorem le_stp {b : Int} : ∀ (ws : List (List S48)) (s : Int), b ≤ s → (∀ w ∈ ws, b ≤ (hd w).f1) → b ≤ stp s ws
  | [], s, h, _ => h
  | w :: ws, s, h, hw => by
    unfold stp
    have := hw w (by simp)
    exact le_stp ws _ (le_mn h this) (fun y hy => hw y (by simp [hy]))
theorem stp_ok {T : Int} {ws : List (List S48)} (h : Rem T ws) (hT : 0 < T) : 1 ≤ stp 1099511627776 ws :=
  le_stp ws _ (by omega) (fun w hw => (hd_ok (h w hw) hT).1)
theorem cut_ok {T s : Int} {w : List S48} (h : Tk w ∧ sm w = T) (hT : 0 < T) (h1 : 1 ≤ s) (hs : s ≤ (hd w).f1) : Tk (cutR s w) ∧ sm (cutR s w) = T - s := by
  obtain ⟨x, l, rfl⟩ := nonempty_of (w := w) (by omega)
  have h2 := h.1.cons
  have h3 := h.2
  rw [hd_cons] at hs
  simp only [sm] at h3
  rw [cutR_cons]
  by_cases c : x.f1 = s
  · rw [if_pos c]
    exact ⟨h2.2, by omega⟩
  · rw [if_neg c]
    refine ⟨fun y hy => ?_, by simp only [sm]; omega⟩
    rcases List.mem_cons.1 hy with rfl | hy
    · show 1 ≤ x.f1 - s
      omega
    · exact h2.2 y hy
theorem Rem.cut {T : Int} {ws : List (List S48)} (h : Rem T ws) (hT : 0 < T) : Rem (T - stp 1099511627776 ws) (ws.map (cutR (stp 1099511627776 ws))) := by
  intro w hw
  obtain ⟨v, hv, rfl⟩ := List.mem_map.1 hw
  exact cut_ok (h v hv) hT (stp_ok h hT) ((stp_le ws _).2 v hv)
def pre1 (x : S48) : List S48 → List S48
  | [] => [x]
  | z :: zs => if z.f0 = x.f0 then (⟨x.f0, x.f1 + z.f1⟩ : S48) :: zs else x :: z :: zs
def chR (i : Int) : List S48 → List S48
  | [] => []
  | y :: c => pre1 ⟨bit y.f0 i, y.f1⟩ (chR i c)
def clR : List S48 → List S48
  | [] => []
  | y :: c => pre1 y (clR c)
theorem pre1_cons (x z : S48) (zs : List S48) : pre1 x (z :: zs) = if z.f0 = x.f0 then (⟨x.f0, x.f1 + z.f1⟩ : S48) :: zs else x :: z :: zs := rfl
theorem pre1_pre1 (b t u : Int) (L : List S48) : pre1 ⟨b, t⟩ (pre1 ⟨b, u⟩ L) = pre1 ⟨b, t + u⟩ L := by
  cases L with
  | nil => simp [pre1]
  | cons z zs =>
    by_cases c : z.f0 = b
    · simp [pre1, c, Int.add_assoc]
    · simp [pre1, c]
theorem pre1_new (y x : S48) (L : List S48) (h : ¬ y.f0 = x.f0) : pre1 y (pre1 x L) = y :: pre1 x L := by
  have h' : ¬ x.f0 = y.f0 := fun e => h e.symm
  cases L with
  | nil => simp [pre1, h']
  | cons z zs =>
    by_cases c : z.f0 = x.f0
    · simp [pre1, c, h']
    · simp [pre1, c, h']
theorem chC_snoc (i : Int) : ∀ (l q : List S48) (y : S48), chC i (q ++ [y]) l = q ++ pre1 y (chR i l)
  | [], q, y => rfl
  | x :: l, q, y => by
    unfold chC chR
    by_cases c : y.f0 = bit x.f0 i
    · rw [← c, putR_same, chC_snoc i l q, show y = ⟨y.f0, y.f1⟩ from rfl, pre1_pre1]
    · rw [putR_new q y c, chC_snoc i l (q ++ [y]), pre1_new y ⟨bit x.f0 i, x.f1⟩ _ c, List.append_assoc]
      rfl
theorem chC_eq (i : Int) (l : List S48) : chC i [] l = chR i l := by
  cases l with
  | nil => rfl
  | cons x l =>
    show chC i (putR [] (bit x.f0 i) x.f1) l = _
    rw [putR_nil]
    exact chC_snoc i l [] _
theorem cln_snoc : ∀ (l q : List S48) (y : S48), cln (q ++ [y]) l = q ++ pre1 y (clR l)
  | [], q, y => rfl
  | x :: l, q, y => by
    unfold cln clR
    by_cases c : y.f0 = x.f0
    · rw [← c, putR_same, cln_snoc l q, show x = ⟨x.f0, x.f1⟩ from rfl, ← c, show y = ⟨y.f0, y.f1⟩ from rfl, pre1_pre1]
    · rw [putR_new q y c, cln_snoc l (q ++ [y]), pre1_new y x _ c, List.append_assoc]
      rfl
theorem cln_eq (l : List S48) : cln [] l = clR l := by
  cases l with
  | nil => rfl
  | cons x l =>
    show cln (putR [] x.f0 x.f1) l = _
    rw [putR_nil]
    exact cln_snoc l [] _
theorem chR_pre1 (i : Int) (x : S48) (L : List S48) : chR i (pre1 x L) = pre1 ⟨bit x.f0 i, x.f1⟩ (chR i L) := by
  cases L with
  | nil => rfl
  | cons z zs =>
    by_cases c : z.f0 = x.f0
    · rw [pre1_cons, if_pos c]
      show pre1 ⟨bit x.f0 i, x.f1 + z.f1⟩ (chR i zs) = pre1 _ (pre1 ⟨bit z.f0 i, z.f1⟩ (chR i zs))
      rw [c, pre1_pre1]
    · rw [pre1_cons, if_neg c]
      rfl
theorem chR_clR (i : Int) : ∀ (l : List S48), chR i (clR l) = chR i l
  | [] => rfl
  | x :: l => by
    unfold clR
    rw [chR_pre1, chR_clR i l]
    rfl
def apR : List S48 → Prop
  | [] => True
  | [_] => True
  | x :: y :: l => ¬ y.f0 = x.f0 ∧ apR (y :: l)
theorem apR_pre1 (x : S48) (L : List S48) (h : apR L) : apR (pre1 x L) := by
  cases L with
  | nil => trivial
  | cons z zs =>
    by_cases c : z.f0 = x.f0
    · simp only [pre1, if_pos c]
      cases zs with
      | nil => trivial
      | cons u us =>
        refine ⟨?_, h.2⟩
        show ¬ u.f0 = x.f0
        rw [← c]
        exact h.1
    · simp only [pre1, if_neg c]
      exact ⟨c, h⟩
theorem apR_clR : ∀ (l : List S48), apR (clR l)
  | [] => trivial
  | x :: l => apR_pre1 x _ (apR_clR l)
theorem clR_of_ap : ∀ {l : List S48}, apR l → clR l = l
  | [], _ => rfl
  | [x], _ => rfl
  | x :: y :: l, h => by
    have ih := clR_of_ap (l := y :: l) h.2
    unfold clR
    rw [ih]
    simp only [pre1]
    rw [if_neg h.1]
theorem clR_clR (l : List S48) : clR (clR l) = clR l := clR_of_ap (apR_clR l)
def chs : Nat → Nat → List S48 → List (List S48)
  | _, 0, _ => []
  | i, n + 1, c => chR (i : Int) c :: chs (i + 1) n c
theorem mem_chs : ∀ (n i : Nat) (c w : List S48), w ∈ chs i n c ↔ ∃ k, i ≤ k ∧ k < i + n ∧ w = chR (k : Int) c
  | 0, i, c, w => by
    simp only [chs, List.not_mem_nil, false_iff]
    rintro ⟨k, h1, h2, _⟩
    omega
  | n + 1, i, c, w => by
    rw [chs, List.mem_cons, mem_chs n (i + 1) c w]
    constructor
    · rintro (h | ⟨k, h1, h2, h3⟩)
      · exact ⟨i, by omega, by omega, h⟩
      · exact ⟨k, by omega, by omega, h3⟩
    · rintro ⟨k, h1, h2, h3⟩
      by_cases e : k = i
      · subst e
        exact .inl h3
      · exact .inr ⟨k, by omega, by omega, h3⟩
theorem hd_pre1 (x : S48) (L : List S48) (h : Tk L) : (hd (pre1 x L)).f0 = x.f0 ∧ x.f1 ≤ (hd (pre1 x L)).f1 := by
  cases L with
  | nil => exact ⟨rfl, Int.le_refl _⟩
  | cons z zs =>
    have hz := h.cons
    by_cases c : z.f0 = x.f0
    · rw [pre1_cons, if_pos c]
      exact ⟨rfl, by show x.f1 ≤ x.f1 + z.f1; omega⟩
    · rw [pre1_cons, if_neg c]
      exact ⟨rfl, Int.le_refl _⟩
theorem pre1_tk {x : S48} {L : List S48} (h : Tk L) (hx : 1 ≤ x.f1) : Tk (pre1 x L) := by
  cases L with
  | nil =>
    intro y hy
    simp only [pre1, List.mem_singleton] at hy
    subst hy
    exact hx
  | cons z zs =>
    have hz := h.cons
    by_cases c : z.f0 = x.f0
    · simp only [pre1, if_pos c]
      intro y hy
      rcases List.mem_cons.1 hy with rfl | hy
      · show 1 ≤ x.f1 + z.f1
        omega
      · exact hz.2 y hy
    · simp only [pre1, if_neg c]
      intro y hy
      rcases List.mem_cons.1 hy with rfl | hy
      · exact hx
      · exact h y hy
theorem chR_tk (i : Int) : ∀ {l : List S48}, Tk l → Tk (chR i l)
  | [], _ => fun y hy => by simp [chR] at hy
  | x :: l, h => pre1_tk (chR_tk i h.cons.2) h.cons.1
theorem pre1_sm (x : S48) (L : List S48) : sm (pre1 x L) = x.f1 + sm L := by
  cases L with
  | nil => rfl
  | cons z zs =>
    by_cases c : z.f0 = x.f0
    · simp only [pre1, if_pos c, sm]
      omega
    · simp only [pre1, if_neg c, sm]
theorem chR_sm (i : Int) : ∀ (l : List S48), sm (chR i l) = sm l
  | [] => rfl
  | x :: l => by rw [chR, pre1_sm, chR_sm i l, sm]
theorem clR_sm : ∀ (l : List S48), sm (clR l) = sm l
  | [] => rfl
  | x :: l => by rw [clR, pre1_sm, clR_sm l, sm]
theorem cut_pre1 (x : S48) (L : List S48) (h : Tk L) : cutR x.f1 (pre1 x L) = L := by
  cases L with
  | nil => simp [pre1, cutR]
  | cons z zs =>
    have hz := h.cons
    by_cases c : z.f0 = x.f0
    · rw [pre1_cons, if_pos c, cutR_cons]
      show (if x.f1 + z.f1 = x.f1 then zs else (⟨x.f0, x.f1 + z.f1 - x.f1⟩ : S48) :: zs) = _
      rw [if_neg (by omega), show x.f1 + z.f1 - x.f1 = z.f1 by omega, ← c]
    · rw [pre1_cons, if_neg c, cutR_cons, if_pos rfl]
theorem cut_chs (y : S48) : ∀ (n i : Nat) (c : List S48), Tk c → (chs i n (y :: c)).map (cutR y.f1) = chs i n c
  | 0, i, c, h => rfl
  | n + 1, i, c, h => by
    rw [chs, chs, List.map_cons, cut_chs y n (i + 1) c h, chR]
    rw [cut_pre1 ⟨bit y.f0 (i : Int), y.f1⟩ (chR (i : Int) c) (chR_tk _ h)]
theorem or_bit {y i : Nat} (hy : y < 65536) (hi : i < 16) : Go.bits .or .i64 ((y % 2 ^ i : Nat) : Int) (shl .i64 (bit (y : Int) (i : Int)) (i : Int)) = ((y % 2 ^ (i + 1) : Nat) : Int) := by
  have hp : (2 : Nat) ^ i ≤ 2 ^ 15 := Nat.pow_le_pow_right (by omega) (by omega)
  have hm : y % 2 ^ i < 2 ^ i := Nat.mod_lt _ (Nat.two_pow_pos i)
  have e0 : shl .i64 (bit (y : Int) (i : Int)) (i : Int) = ((2 ^ i * (y.testBit i).toNat : Nat) : Int) := by
    rw [bitN hy (by omega)]
    have h1 : ∀ k : Fin 16, shl .i64 1 ((k.val : Nat) : Int) = ((2 ^ k.val : Nat) : Int) := by decide +kernel
    have h0 : ∀ k : Fin 16, shl .i64 0 ((k.val : Nat) : Int) = 0 := by decide +kernel
    cases y.testBit i
    · simpa using h0 ⟨i, hi⟩
    · simpa using h1 ⟨i, hi⟩
  have hb : (y.testBit i).toNat ≤ 1 := by cases y.testBit i <;> decide
  have hb2 : 2 ^ i * (y.testBit i).toNat ≤ 2 ^ i * 1 := Nat.mul_le_mul_left _ hb
  have e1 : ∀ a b : Int, Go.bits .or .i64 a b = IntKind.i64.wrap (((BitVec.ofInt 64 a ||| BitVec.ofInt 64 b).toNat : Nat) : Int) := fun a b => rfl
  have e2 : y % 2 ^ (i + 1) = 2 ^ i * (y.testBit i).toNat + y % 2 ^ i := by
    rw [Nat.mod_pow_succ, Nat.toNat_testBit]
    omega
  rw [e0, e1, BitVec.toNat_or, ofIntN (by omega), ofIntN (by omega), e2, Nat.two_pow_add_eq_or_of_lt hm, Nat.or_comm, wrapN]
  rw [← Nat.two_pow_add_eq_or_of_lt hm]
  omega
theorem lvl_chs {y : Nat} (hy : y < 65536) (t : Int) : ∀ (n i : Nat) (c : List S48), Tk c → i + n ≤ 16 → lvl ((y % 2 ^ i : Nat) : Int) i (chs i n ((⟨(y : Int), t⟩ : S48) :: c)) = ((y % 2 ^ (i + n) : Nat) : Int)
  | 0, i, c, h, hn => rfl
  | n + 1, i, c, h, hn => by
    rw [chs, lvl, chR, (hd_pre1 ⟨bit (y : Int) (i : Int), t⟩ _ (chR_tk _ h)).1]
    show lvl (Go.bits .or .i64 _ (shl .i64 (bit (y : Int) (i : Int)) (i : Int))) (i + 1) _ = _
    rw [or_bit hy (by omega), lvl_chs hy t n (i + 1) c h (by omega), show i + 1 + n = i + (n + 1) by omega]
theorem stp_chs {y : S48} {n : Nat} {c : List S48} (hn : 1 ≤ n) (h16 : n ≤ 16) (ht : Tk (y :: c)) (hs : y.f1 ≤ 1099511627776) (hy : 0 ≤ y.f0 ∧ y.f0 < 2 ^ n) (hc : ∀ z ∈ c, 0 ≤ z.f0 ∧ z.f0 < 2 ^ n) (ha : apR (y :: c)) : stp 1099511627776 (chs 0 n (y :: c)) = y.f1 := by
  have hlo : y.f1 ≤ stp 1099511627776 (chs 0 n (y :: c)) := by
    refine le_stp _ _ hs (fun w hw => ?_)
    obtain ⟨k, _, _, rfl⟩ := (mem_chs n 0 _ w).1 hw
    exact (hd_pre1 ⟨bit y.f0 (k : Int), y.f1⟩ _ (chR_tk _ ht.cons.2)).2
  have hex : ∃ k : Nat, k < n ∧ (hd (chR (k : Int) (y :: c))).f1 = y.f1 := by
    cases c with
    | nil => exact ⟨0, by omega, rfl⟩
    | cons z l =>
      have hz := hc z (by simp)
      have hne : ¬ z.f0 = y.f0 := ha.1
      have hp : (2 : Nat) ^ n ≤ 2 ^ 16 := Nat.pow_le_pow_right (by omega) h16
      obtain ⟨a, ea⟩ := Int.eq_ofNat_of_zero_le hy.1
      obtain ⟨b, eb⟩ := Int.eq_ofNat_of_zero_le hz.1
      have ha' : a < 2 ^ n := by
        have := hy.2
        rw [ea] at this
        exact_mod_cast this
      have hb' : b < 2 ^ n := by
        have := hz.2
        rw [eb] at this
        exact_mod_cast this
      have : ∃ k, ¬ a.testBit k = b.testBit k := by
        apply Classical.byContradiction
        intro hno
        apply hne
        rw [ea, eb, Nat.eq_of_testBit_eq (x := b) (y := a) (fun k => by
          apply Classical.byContradiction
          intro hk
          exact hno ⟨k, fun e => hk e.symm⟩)]
      obtain ⟨k, hk⟩ := this
      have hkn : k < n := by
        apply Classical.byContradiction
        intro hge
        have hpk : 2 ^ n ≤ 2 ^ k := Nat.pow_le_pow_right (by omega) (by omega)
        rw [Nat.testBit_lt_two_pow (by omega), Nat.testBit_lt_two_pow (by omega)] at hk
        exact hk rfl
      refine ⟨k, hkn, ?_⟩
      have e : ¬ bit z.f0 (k : Int) = bit y.f0 (k : Int) := by
        rw [ea, eb, bitN (by omega) (by omega), bitN (by omega) (by omega)]
        revert hk
        cases a.testBit k <;> cases b.testBit k <;> simp
      have e2 := hd_pre1 ⟨bit z.f0 (k : Int), z.f1⟩ (chR (k : Int) l) (chR_tk _ ht.cons.2.cons.2)
      show (hd (pre1 ⟨bit y.f0 (k : Int), y.f1⟩ (pre1 ⟨bit z.f0 (k : Int), z.f1⟩ (chR (k : Int) l)))).f1 = y.f1
      rw [pre1_new _ _ _ (fun e3 => e e3.symm)]
      rfl
  obtain ⟨k, hk, e⟩ := hex
  have := (stp_le (chs 0 n (y :: c)) 1099511627776).2 _ ((mem_chs n 0 _ _).2 ⟨k, by omega, by omega, rfl⟩)
  omega
theorem mrg_chs {n : Nat} (hn : 1 ≤ n) (h16 : n ≤ 16) : ∀ (c o : List S48) (m : Nat), c.length ≤ m → Tk c → sm c ≤ 1099511627776 → (∀ z ∈ c, 0 ≤ z.f0 ∧ z.f0 < 2 ^ n) → apR c → mrg m o (chs 0 n c) = cln o c
  | [], o, m, hm, ht, hs, hb, ha => by
    cases m with
    | zero => rfl
    | succ m =>
      unfold mrg
      rw [if_pos (by
        cases n with
        | zero => omega
        | succ n => rfl)]
      rfl
  | y :: c, o, 0, hm, ht, hs, hb, ha => by simp at hm
  | y :: c, o, m + 1, hm, ht, hs, hb, ha => by
    have hy := hb y (by simp)
    have hc : ∀ z ∈ c, 0 ≤ z.f0 ∧ z.f0 < 2 ^ n := fun z hz => hb z (by simp [hz])
    have h0 := smT_nonneg ht.cons.2
    simp only [sm] at hs
    have hy1 := ht.cons.1
    have e1 := stp_chs hn h16 ht (by omega) hy hc ha
    have hp : (2 : Nat) ^ n ≤ 2 ^ 16 := Nat.pow_le_pow_right (by omega) h16
    have e2 : lvl 0 0 (chs 0 n (y :: c)) = y.f0 := by
      obtain ⟨a, ea⟩ := Int.eq_ofNat_of_zero_le hy.1
      have ha' : a < 2 ^ n := by
        have := hy.2
        rw [ea] at this
        exact_mod_cast this
      have := lvl_chs (y := a) (by omega) y.f1 n 0 c ht.cons.2 (by omega)
      rw [Nat.zero_add, Nat.mod_eq_of_lt ha', ← ea] at this
      rw [← this]
      simp
    have hap : apR c := by
      cases c with
      | nil => trivial
      | cons z l => exact ha.2
    unfold mrg
    rw [if_neg (by
      cases n with
      | zero => omega
      | succ n =>
        simp only [chs, List.headD_cons]
        intro h
        have := congrArg sm h
        rw [chR_sm] at this
        simp only [sm] at this
        have := ht.cons.1
        omega), e1, e2, cut_chs y n 0 c ht.cons.2, mrg_chs hn h16 c _ m (by simpa using hm) ht.cons.2 (by omega) hc hap]
    rfl
def cA (c : List S48 × List S48 × Int) : Int := (c.1.length : Int)
def cU (c : List S48 × List S48 × Int) : Int := c.2.2
def cW (c : List S48 × List S48 × Int) : List S48 := c.1 ++ c.2.1
def shr1 (u : Int) : List S48 → List S48
  | [] => []
  | x :: l => (⟨x.f0, x.f1 - u⟩ : S48) :: l
def cR (c : List S48 × List S48 × Int) : List S48 := shr1 c.2.2 c.2.1
def cOk (c : List S48 × List S48 × Int) : Prop := match c.2.1 with
  | [] => c.2.2 = 0
  | x :: _ => 0 ≤ c.2.2 ∧ c.2.2 < x.f1 ∧ x.f1 ≤ 1099511627776
def cAdv (s : Int) (c : List S48 × List S48 × Int) : List S48 × List S48 × Int := match c with
  | (p, [], u) => (p, [], u)
  | (p, x :: q, u) => if u + s = x.f1 then (p ++ [x], q, 0) else (p, x :: q, u + s)
def cLen (c : List S48 × List S48 × Int) : Prop := (cW c).length ≤ 262144
theorem cAdv_W (s : Int) (c : List S48 × List S48 × Int) : cW (cAdv s c) = cW c := by
  obtain ⟨p, q, u⟩ := c
  cases q with
  | nil => rfl
  | cons x q =>
    by_cases e : u + s = x.f1
    · simp [cAdv, e, cW]
    · simp [cAdv, e, cW]
theorem shr1_zero (l : List S48) : shr1 0 l = l := by
  cases l with
  | nil => rfl
  | cons x l => simp [shr1]
theorem cAdv_R (s : Int) (c : List S48 × List S48 × Int) : cR (cAdv s c) = cutR s (cR c) := by
  obtain ⟨p, q, u⟩ := c
  cases q with
  | nil => rfl
  | cons x q =>
    by_cases e : u + s = x.f1
    · have e' : x.f1 - u = s := by omega
      have e3 : cAdv s (p, x :: q, u) = (p ++ [x], q, 0) := by simp [cAdv, e]
      rw [e3]
      show shr1 0 q = cutR s ((⟨x.f0, x.f1 - u⟩ : S48) :: q)
      rw [shr1_zero, cutR_cons]
      exact (if_pos e').symm
    · have e' : ¬ x.f1 - u = s := by omega
      have e2 : x.f1 - u - s = x.f1 - (u + s) := by omega
      simp [cAdv, e, cR, shr1, cutR, e', e2]
theorem cAdv_ok {s : Int} {c : List S48 × List S48 × Int} (h : cOk c) (ht : Tk (cR c)) (hs : sm (cW c) ≤ 1099511627776) (hp : Tk (cW c)) (h1 : 1 ≤ s) (h2 : s ≤ (hd (cR c)).f1 ∨ c.2.1 = []) : cOk (cAdv s c) := by
  obtain ⟨p, q, u⟩ := c
  cases q with
  | nil => exact h
  | cons x q =>
    have h0 : 0 ≤ u ∧ u < x.f1 ∧ x.f1 ≤ 1099511627776 := h
    have h3 : s ≤ x.f1 - u := by
      rcases h2 with h2 | h2
      · exact h2
      · cases h2
    by_cases e : u + s = x.f1
    · simp only [cAdv, if_pos e]
      cases q with
      | nil => rfl
      | cons y q =>
        have hy : y ∈ cW (p, x :: y :: q, u) := by simp [cW]
        have := leT_sm hp y hy
        have := hp y hy
        show 0 ≤ (0 : Int) ∧ 0 < y.f1 ∧ y.f1 ≤ 1099511627776
        omega
    · simp only [cAdv, if_neg e]
      show 0 ≤ u + s ∧ u + s < x.f1 ∧ x.f1 ≤ 1099511627776
      omega
theorem merge_l1 (W : List (List S48)) (A U : List Int) (o : List S48) (R : List S48) : ∀ (t s : List (List S48 × List S48 × Int)) (pa pu : List Int) (v st : Int),
    (∀ c ∈ t, cOk c ∧ c.2.1 ≠ []) → W = (s ++ t).map cW → A = (s ++ t).map cA ++ pa → U = (s ++ t).map cU ++ pu → W.length ≤ 262144 →
    Ev (fun k => (capture_join.f o (lvl v s.length (t.map cR)) (stp st (t.map cR))).bind fun o' => capture_merge.l2 k W A U o' (stp st (t.map cR)) W (W.length : Int) 0) R →
    Ev (fun k => capture_merge.l1 k W A U o v st W (W.length : Int) (s.length : Int)) R
  | [], s, pa, pu, v, st, hc, hW, hA, hU, hl, h => by
    have e : (s.length : Int) = (W.length : Int) := by simp [hW]
    refine Ev.step (fun k => ?_) h
    simp only [capture_merge.l1]
    rw [if_neg (by omega)]
    rfl
  | (p, [], u) :: t, s, pa, pu, v, st, hc, hW, hA, hU, hl, h => absurd rfl (hc _ List.mem_cons_self).2
  | (p, x :: q, u) :: t, s, pa, pu, v, st, hc, hW, hA, hU, hl, h => by
    have h0 : 0 ≤ u ∧ u < x.f1 ∧ x.f1 ≤ 1099511627776 := (hc _ List.mem_cons_self).1
    have eW : W = s.map cW ++ (p ++ x :: q) :: t.map cW := by simp [hW, cW]
    have eA : A = s.map cA ++ (p.length : Int) :: (t.map cA ++ pa) := by simp [hA, cA]
    have eU : U = s.map cU ++ u :: (t.map cU ++ pu) := by simp [hU, cU]
    have nW : ((s.map cW).length : Int) = (s.length : Int) := by simp
    have nA : ((s.map cA).length : Int) = (s.length : Int) := by simp
    have nU : ((s.map cU).length : Int) = (s.length : Int) := by simp
    have rW : rd_L3 W (s.length : Int) = p ++ x :: q := by
      rw [eW, ← nW]
      exact rdl_mid _ _ _
    have rA : rd A (s.length : Int) = (p.length : Int) := by
      rw [eA, ← nA]
      exact rdi_mid _ _ _
    have rU : rd U (s.length : Int) = u := by
      rw [eU, ← nU]
      exact rdi_mid _ _ _
    have lW : (s.length : Int) < (W.length : Int) := by
      rw [eW, ← nW]
      exact midl_lt _ _ _
    have lA : (s.length : Int) < (A.length : Int) := by
      rw [eA, ← nA]
      exact midi_lt _ _ _
    have lU : (s.length : Int) < (U.length : Int) := by
      rw [eU, ← nU]
      exact midi_lt _ _ _
    have e1 : (s ++ [(p, x :: q, u)]).length = s.length + 1 := by simp
    have ih := merge_l1 W A U o R t (s ++ [(p, x :: q, u)]) pa pu (Go.bits .or .i64 v (shl .i64 x.f0 (s.length : Int))) (mn st (x.f1 - u)) (fun c hc' => hc c (by simp [hc'])) (by simpa using hW) (by simpa using hA) (by simpa using hU) hl (by rw [e1]; exact h)
    refine Ev.step (fun k => ?_) ih
    simp only [capture_merge.l1]
    rw [rW, rA, rU, rd_mid, if_pos lW, if_pos (by omega), if_pos lW, if_pos lA, if_pos (by omega), if_pos (mid_lt p q x), if_pos lU, w64 (x := x.f1 - u) (by omega) (by omega), w64 (x := (s.length : Int) + 1) (by omega) (by omega), e1]
    norm_cast
theorem seti_mid (pre post : List Int) (x y : Int) (i : Int) (h : i = (pre.length : Int)) : (pre ++ x :: post).set i.toNat y = pre ++ y :: post := by
  subst h
  rw [Int.toNat_natCast]
  simp
theorem merge_l2 (W : List (List S48)) (o : List S48) (d : Int) (R : List S48) (pa pu : List Int) : ∀ (t s : List (List S48 × List S48 × Int)),
    1 ≤ d → (∀ c ∈ t, cOk c ∧ c.2.1 ≠ [] ∧ d ≤ (hd (cR c)).f1 ∧ cLen c) → W = (s ++ t).map cW → W.length ≤ 262144 →
    Ev (fun k => capture_merge.l0 k W ((s ++ t.map (cAdv d)).map cA ++ pa) ((s ++ t.map (cAdv d)).map cU ++ pu) o) R →
    Ev (fun k => capture_merge.l2 k W ((s ++ t).map cA ++ pa) ((s ++ t).map cU ++ pu) o d W (W.length : Int) (s.length : Int)) R
  | [], s, hd1, hc, hW, hl, h => by
    have e : (s.length : Int) = (W.length : Int) := by simp [hW]
    refine Ev.step (fun k => ?_) h
    simp only [capture_merge.l2]
    rw [if_neg (by omega)]
    rfl
  | (p, [], u) :: t, s, hd1, hc, hW, hl, h => absurd rfl (hc _ List.mem_cons_self).2.1
  | (p, x :: q, u) :: t, s, hd1, hc, hW, hl, h => by
    have hcc := hc _ (List.mem_cons_self)
    have h0 : 0 ≤ u ∧ u < x.f1 ∧ x.f1 ≤ 1099511627776 := hcc.1
    have hdx : d ≤ x.f1 - u := hcc.2.2.1
    have hpl : p.length ≤ 262144 := by
      have : (p ++ x :: q).length ≤ 262144 := hcc.2.2.2
      simp only [List.length_append] at this
      omega
    have eW : W = s.map cW ++ (p ++ x :: q) :: t.map cW := by simp [hW, cW]
    have eA : (s ++ (p, x :: q, u) :: t).map cA ++ pa = s.map cA ++ (p.length : Int) :: (t.map cA ++ pa) := by simp [cA]
    have eU : (s ++ (p, x :: q, u) :: t).map cU ++ pu = s.map cU ++ u :: (t.map cU ++ pu) := by simp [cU]
    have nW : ((s.map cW).length : Int) = (s.length : Int) := by simp
    have nA : ((s.map cA).length : Int) = (s.length : Int) := by simp
    have nU : ((s.map cU).length : Int) = (s.length : Int) := by simp
    have rW : rd_L3 W (s.length : Int) = p ++ x :: q := by
      rw [eW, ← nW]
      exact rdl_mid _ _ _
    have lW : (s.length : Int) < (W.length : Int) := by
      rw [eW, ← nW]
      exact midl_lt _ _ _
    have rA : rd (s.map cA ++ (p.length : Int) :: (t.map cA ++ pa)) (s.length : Int) = (p.length : Int) := by
      rw [← nA]
      exact rdi_mid _ _ _
    have rU : ∀ z, rd (s.map cU ++ z :: (t.map cU ++ pu)) (s.length : Int) = z := by
      intro z
      rw [← nU]
      exact rdi_mid _ _ _
    have lA : (s.length : Int) < ((s.map cA ++ (p.length : Int) :: (t.map cA ++ pa)).length : Int) := by
      have := midi_lt (s.map cA) (t.map cA ++ pa) (p.length : Int)
      omega
    have lU : (s.length : Int) < ((s.map cU ++ u :: (t.map cU ++ pu)).length : Int) := by
      have := midi_lt (s.map cU) (t.map cU ++ pu) u
      omega
    have sU : ∀ z y, (s.map cU ++ z :: (t.map cU ++ pu)).set ((s.length : Int)).toNat y = s.map cU ++ y :: (t.map cU ++ pu) := fun z y => seti_mid _ _ _ _ _ nU.symm
    have sA : ∀ y, (s.map cA ++ (p.length : Int) :: (t.map cA ++ pa)).set ((s.length : Int)).toNat y = s.map cA ++ y :: (t.map cA ++ pa) := fun y => seti_mid _ _ _ _ _ nA.symm
    have e1 : (((s ++ [cAdv d (p, x :: q, u)]).length : Nat) : Int) = (s.length : Int) + 1 := by simp
    have ih := merge_l2 W o d R pa pu t (s ++ [cAdv d (p, x :: q, u)]) hd1 (fun c hc' => hc c (by simp [hc'])) (by rw [hW]; simp [cAdv_W]) hl (by simpa using h)
    rw [e1] at ih
    rw [eA, eU]
    by_cases e : u + d = x.f1
    · have e2 : cAdv d (p, x :: q, u) = (p ++ [x], q, 0) := by simp [cAdv, e]
      rw [e2] at ih
      have eA' : ((s ++ [(p ++ [x], q, (0 : Int))]) ++ t).map cA ++ pa = s.map cA ++ ((p.length : Int) + 1) :: (t.map cA ++ pa) := by simp [cA]
      have eU' : ((s ++ [(p ++ [x], q, (0 : Int))]) ++ t).map cU ++ pu = s.map cU ++ 0 :: (t.map cU ++ pu) := by simp [cU]
      rw [eA', eU'] at ih
      refine Ev.step (fun k => ?_) ih
      simp only [capture_merge.l2]
      rw [if_pos lW, if_pos (by omega), if_pos lW, if_pos lU, Option.bind_some, if_pos lA, rA, if_pos (by omega), rW, if_pos (mid_lt p q x), sU, rU, rU, rd_mid, w64 (x := u + d) (by omega) (by omega), if_pos e, sA, sU, w64 (x := (s.length : Int) + 1) (by omega) (by omega), w64 (x := (p.length : Int) + 1) (by omega) (by omega)]
    · have e2 : cAdv d (p, x :: q, u) = (p, x :: q, u + d) := by simp [cAdv, e]
      rw [e2] at ih
      have eA' : ((s ++ [(p, x :: q, u + d)]) ++ t).map cA ++ pa = s.map cA ++ (p.length : Int) :: (t.map cA ++ pa) := by simp [cA]
      have eU' : ((s ++ [(p, x :: q, u + d)]) ++ t).map cU ++ pu = s.map cU ++ (u + d) :: (t.map cU ++ pu) := by simp [cU]
      rw [eA', eU'] at ih
      refine Ev.step (fun k => ?_) ih
      simp only [capture_merge.l2]
      rw [if_pos lW, if_pos (by omega), if_pos lW, if_pos lU, Option.bind_some, if_pos lA, rA, if_pos (by omega), rW, if_pos (mid_lt p q x), sU, rU, rU, rd_mid, w64 (x := u + d) (by omega) (by omega), if_neg e, w64 (x := (s.length : Int) + 1) (by omega) (by omega)]
theorem cR_nonempty {T : Int} {c : List S48 × List S48 × Int} (h : Tk (cR c) ∧ sm (cR c) = T) (hT : 0 < T) : c.2.1 ≠ [] := by
  obtain ⟨p, q, u⟩ := c
  cases q with
  | nil =>
    have := h.2
    simp [cR, shr1, sm] at this
    omega
  | cons x q => simp
theorem merge_l0 (W : List (List S48)) (hl : W.length ≤ 262144) (pa pu : List Int) : ∀ (n : Nat) (σ : List (List S48 × List S48 × Int)) (o : List S48) (T : Int), T ≤ n → 0 ≤ T →
    W = σ.map cW → σ ≠ [] → Rem T (σ.map cR) → (∀ c ∈ σ, cOk c ∧ cLen c ∧ Tk (cW c) ∧ sm (cW c) ≤ 1099511627776) → Tk o → sm o + T ≤ 1099511627776 → o.length + T ≤ 8796093022207 →
    Ev (fun k => capture_merge.l0 k W (σ.map cA ++ pa) (σ.map cU ++ pu) o) (mrg n o (σ.map cR))
  | n, [], o, T, hn, hT, hW, hne, hR, hc, ho, hs, hlo => absurd rfl hne
  | n, c :: σ, o, T, hn, hT, hW, hne, hR, hc, ho, hs, hlo => by
    have hR0 := hR.cons
    have hcc := hc c (by simp)
    have rA : rd ((c :: σ).map cA ++ pa) 0 = cA c := by simp [rd, List.getD]
    have rW : rd_L3 W 0 = cW c := by simp [rd_L3, hW, List.getD]
    have lA : (0 : Int) < (((c :: σ).map cA ++ pa).length : Int) := by
      simp only [List.map_cons, List.cons_append, List.length_cons]
      omega
    have lW : (0 : Int) < (W.length : Int) := by
      rw [hW]
      simp only [List.map_cons, List.length_cons]
      omega
    by_cases hT0 : T = 0
    · have e : c.2.1 = [] := by
        have h1 := empty_of hR0.1.1 (by omega)
        obtain ⟨p, q, u⟩ := c
        cases q with
        | nil => rfl
        | cons x q => simp [cR, shr1] at h1
      have er : cR c = [] := by
        obtain ⟨p, q, u⟩ := c
        have : q = [] := e
        subst this
        rfl
      have em : mrg n o ((c :: σ).map cR) = o := by
        cases n with
        | zero => rfl
        | succ n =>
          unfold mrg
          rw [if_pos (by simp [er])]
      rw [em]
      refine Ev.step (f := fun _ => some o) (fun k => ?_) (Ev.now _)
      simp only [capture_merge.l0]
      rw [if_pos lA, if_pos lW, rA, rW, if_neg (by simp [cA, cW, e])]
    · have hTp : 0 < T := by omega
      obtain ⟨n, rfl⟩ : ∃ m, n = m + 1 := ⟨n - 1, by omega⟩
      have hq := cR_nonempty hR0.1 hTp
      have hnr : ¬ (((c :: σ).map cR).headD [] = []) := by
        obtain ⟨p, q, u⟩ := c
        cases q with
        | nil => exact absurd rfl hq
        | cons x q => simp [cR, shr1]
      have h1 := stp_ok hR hTp
      have hle := (stp_le ((c :: σ).map cR) 1099511627776).2
      have hTs : stp 1099511627776 ((c :: σ).map cR) ≤ T := by
        have := hle (cR c) (by simp)
        have := hd_ok hR0.1 hTp
        omega
      have hall : ∀ y ∈ c :: σ, cOk y ∧ y.2.1 ≠ [] ∧ stp 1099511627776 ((c :: σ).map cR) ≤ (hd (cR y)).f1 ∧ cLen y := fun y hy =>
        ⟨(hc y hy).1, cR_nonempty (hR _ (List.mem_map_of_mem hy)) hTp, hle _ (List.mem_map_of_mem hy), (hc y hy).2.1⟩
      have hj : capture_join.f o (lvl 0 0 ((c :: σ).map cR)) (stp 1099511627776 ((c :: σ).map cR)) = some (putR o (lvl 0 0 ((c :: σ).map cR)) (stp 1099511627776 ((c :: σ).map cR))) :=
        join_eq (by omega) (by omega) (fun y hy => by have := leT_sm ho y hy; omega)
      have eR : ((c :: σ).map (cAdv (stp 1099511627776 ((c :: σ).map cR)))).map cR = ((c :: σ).map cR).map (cutR (stp 1099511627776 ((c :: σ).map cR))) := by
        rw [List.map_map, List.map_map]
        exact List.map_congr_left (fun y _ => cAdv_R _ y)
      have eW : ((c :: σ).map (cAdv (stp 1099511627776 ((c :: σ).map cR)))).map cW = (c :: σ).map cW := by
        rw [List.map_map]
        exact List.map_congr_left (fun y _ => cAdv_W _ y)
      have ih := merge_l0 W hl pa pu n ((c :: σ).map (cAdv (stp 1099511627776 ((c :: σ).map cR)))) (putR o (lvl 0 0 ((c :: σ).map cR)) (stp 1099511627776 ((c :: σ).map cR))) (T - stp 1099511627776 ((c :: σ).map cR)) (by omega) (by omega) (by rw [eW]; exact hW) (by simp) (by rw [eR]; exact hR.cut hTp) (fun y hy => by
          obtain ⟨z, hz, rfl⟩ := List.mem_map.1 hy
          have h := hc z hz
          exact ⟨cAdv_ok h.1 (hR _ (List.mem_map_of_mem hz)).1 h.2.2.2 h.2.2.1 h1 (.inl (hall z hz).2.2.1), by unfold cLen; rw [cAdv_W]; exact h.2.1, by rw [cAdv_W]; exact h.2.2.1, by rw [cAdv_W]; exact h.2.2.2⟩) (putR_tk ho h1) (by rw [putR_sm]; omega) (by have := putR_len o (lvl 0 0 ((c :: σ).map cR)) (stp 1099511627776 ((c :: σ).map cR)); omega)
      have e : mrg (n + 1) o ((c :: σ).map cR) = mrg n (putR o (lvl 0 0 ((c :: σ).map cR)) (stp 1099511627776 ((c :: σ).map cR))) (((c :: σ).map cR).map (cutR (stp 1099511627776 ((c :: σ).map cR)))) := by
        rw [mrg, if_neg hnr]
      rw [e, ← eR]
      have h2 := merge_l2 W (putR o (lvl 0 0 ((c :: σ).map cR)) (stp 1099511627776 ((c :: σ).map cR))) (stp 1099511627776 ((c :: σ).map cR)) _ pa pu (c :: σ) [] h1 hall (by simpa using hW) hl ih
      have h3 := merge_l1 W ((c :: σ).map cA ++ pa) ((c :: σ).map cU ++ pu) o _ (c :: σ) [] pa pu 0 1099511627776 (fun y hy => ⟨(hall y hy).1, (hall y hy).2.1⟩) (by simpa using hW) rfl rfl hl (Ev.congr (fun k => by rw [show ([] : List (List S48 × List S48 × Int)).length = 0 from rfl, hj, Option.bind_some]; rfl) h2)
      refine Ev.step (fun k => ?_) h3
      simp only [capture_merge.l0]
      rw [if_pos lA, if_pos lW, rA, rW, if_pos (by
        obtain ⟨p, q, u⟩ := c
        cases q with
        | nil => exact absurd rfl hq
        | cons x q =>
          simp only [cA, cW, List.length_append, List.length_cons]
          omega)]
      rfl
def ini (w : List S48) : List S48 × List S48 × Int := ([], w, 0)
theorem map_iniR (ws : List (List S48)) : (ws.map ini).map cR = ws := by
  rw [List.map_map, List.map_congr_left (g := id) (fun y _ => by show shr1 0 y = y; exact shr1_zero y), List.map_id]
theorem map_iniW (ws : List (List S48)) : (ws.map ini).map cW = ws := by
  rw [List.map_map, List.map_congr_left (g := id) (fun y _ => by show cW (ini y) = y; rfl), List.map_id]
theorem pad16 {α : Type} (ws : List α) (h : ws.length ≤ 16) : List.replicate 16 (0 : Int) = ws.map (fun _ => 0) ++ List.replicate (16 - ws.length) 0 := by
  rw [List.map_const', List.replicate_append_replicate, show ws.length + (16 - ws.length) = 16 by omega]
def WavesOk (T : Int) (ws : List (List S48)) : Prop := ∀ w ∈ ws, w.length ≤ 262144 ∧ Tk w ∧ sm w = T
theorem merge_ev {ws : List (List S48)} {T : Int} (h16 : ws.length ≤ 16) (hne : ws ≠ []) (hT : 0 ≤ T ∧ T ≤ 1099511627776) (h : WavesOk T ws) : Ev (fun k => capture_merge.f k ws) (mrg T.toNat [] ws) := by
  have h0 := merge_l0 ws (by omega) (List.replicate (16 - ws.length) 0) (List.replicate (16 - ws.length) 0) T.toNat (ws.map ini) [] T (by omega) hT.1 (map_iniW ws).symm (by simpa using hne) (by rw [map_iniR]; exact fun w hw => ⟨(h w hw).2.1, (h w hw).2.2⟩) (fun c hc => by
      obtain ⟨w, hw, rfl⟩ := List.mem_map.1 hc
      have hh := h w hw
      refine ⟨?_, hh.1, hh.2.1, by show sm w ≤ _; omega⟩
      cases w with
      | nil => rfl
      | cons x l =>
        have h1 := hh.2.1.cons
        have h2 := leT_sm hh.2.1 x (by simp)
        show 0 ≤ (0 : Int) ∧ 0 < x.f1 ∧ x.f1 ≤ 1099511627776
        omega) (fun y hy => by simp at hy) (by simp only [sm]; omega) (by simp only [List.length_nil]; omega)
  rw [map_iniR] at h0
  refine Ev.congr (fun k => ?_) h0
  unfold capture_merge.f
  rw [if_pos (by omega), pad16 ws h16, List.map_map, List.map_map]
  rfl
def allV (ws : List (List S48)) : Bool := ws.all vld
def allS (t : Int) (ws : List (List S48)) : Bool := ws.all (fun w => decide (sm w = t))
def WWf (ws : List (List S48)) : Prop := ∀ w ∈ ws, RunsWf w ∧ w.length ≤ 140737488351232
theorem vld_ok {w : List S48} (h : vld w = true) : w.length ≤ 262144 ∧ Tk w ∧ 0 ≤ sm w ∧ sm w ≤ 1099511627776 := by
  have h1 := vld_iff.1 h
  have h2 : Tk w := fun y hy => (h1.2.1 y hy).2
  exact ⟨h1.1, h2, smT_nonneg h2, h1.2.2⟩
theorem checkWaves_l1 (w0 : List S48) (ws : List (List S48)) (h0 : vld w0 = true) (hw0 : RunsWf w0) (hWs : rd_L3 ws 0 = w0) (hpos : 0 < ws.length) : ∀ (post pre : List (List S48)), WWf post → allV post = true → (pre ++ post).length ≤ 262144 →
    Ev (fun k => capture_checkWaves.l1 k ws (pre ++ post) ((pre ++ post).length : Int) (pre.length : Int)) (if allS (sm w0) post = true then 0 else 17)
  | [], pre, hw, hv, hl => by
    refine Ev.step (f := fun _ => some 0) (fun k => ?_) (Ev.now _)
    simp only [capture_checkWaves.l1]
    rw [if_neg (by simp)]
  | x :: post, pre, hw, hv, hl => by
    have hx := hw x (by simp)
    have hvx : vld x = true ∧ allV post = true := by
      unfold allV at hv
      rw [List.all_cons, Bool.and_eq_true] at hv
      exact hv
    have hlt := midl_lt pre post x
    have hn : pre.length ≤ 262144 := by
      simp only [List.length_append] at hl
      omega
    have o0 := vld_ok h0
    have e1 : longV x = sm x := if_pos hvx.1
    have e2 : longV w0 = sm w0 := if_pos h0
    have l1 := wave_Long_ev hx.1 hx.2
    have l0 := wave_Long_ev hw0 (by have := o0.1; omega)
    rw [e1] at l1
    rw [e2] at l0
    have ih := checkWaves_l1 w0 ws h0 hw0 hWs hpos post (pre ++ [x]) (fun y hy => hw y (by simp [hy])) hvx.2 (by simpa using hl)
    rw [← mid_snoc] at ih
    refine Ev.step (f := fun k => (wave_Long.f k x).bind fun t134 => (wave_Long.f k w0).bind fun t136 => if t134 = t136 then capture_checkWaves.l1 k ws (pre ++ x :: post) ((pre ++ x :: post).length : Int) ((pre ++ [x]).length : Int) else some 17) (fun k => ?_) (Ev.bind l1 (Ev.bind l0 ?_))
    · simp only [capture_checkWaves.l1]
      rw [if_pos hlt, if_pos (Int.natCast_nonneg _), if_pos hlt, rdl_mid, succ_mid _ _ (by omega), hWs]
      refine congrArg _ (funext fun _ => ?_)
      rw [if_pos (by omega)]
    · by_cases c : sm x = sm w0
      · have e : allS (sm w0) (x :: post) = allS (sm w0) post := by
          unfold allS
          rw [List.all_cons, decide_eq_true c, Bool.true_and]
        rw [e]
        exact Ev.congr (fun k => if_pos c) ih
      · have e : allS (sm w0) (x :: post) = false := by
          unfold allS
          rw [List.all_cons, decide_eq_false c, Bool.false_and]
        rw [e]
        exact Ev.congr (fun k => if_neg c) (Ev.now _)
theorem checkWaves_l0 (ws : List (List S48)) (R : Int) : ∀ (post pre : List (List S48)), WWf post → (pre ++ post).length ≤ 262144 → (allV post = true → Ev (fun k => capture_checkWaves.l1 k ws ws (ws.length : Int) 0) R) →
    Ev (fun k => capture_checkWaves.l0 k ws (pre ++ post) ((pre ++ post).length : Int) (pre.length : Int)) (if allV post = true then R else 1)
  | [], pre, hw, hl, h => by
    have h' := h rfl
    refine Ev.step (fun k => ?_) h'
    simp only [capture_checkWaves.l0]
    rw [if_neg (by simp)]
  | x :: post, pre, hw, hl, h => by
    have hx := hw x (by simp)
    have hlt := midl_lt pre post x
    have hn : pre.length ≤ 262144 := by
      simp only [List.length_append] at hl
      omega
    refine Ev.step (f := fun k => (wave_Valid.f k x).bind fun t132 => if t132 = true then capture_checkWaves.l0 k ws (pre ++ x :: post) ((pre ++ x :: post).length : Int) ((pre ++ [x]).length : Int) else some 1) (fun k => ?_) (Ev.bind (wave_Valid_ev hx.1 hx.2) ?_)
    · simp only [capture_checkWaves.l0]
      rw [if_pos hlt, if_pos (Int.natCast_nonneg _), if_pos hlt, rdl_mid, succ_mid _ _ (by omega)]
    · have e0 : allV (x :: post) = (vld x && allV post) := List.all_cons
      by_cases c : vld x = true
      · have e : allV (x :: post) = allV post := by rw [e0, c, Bool.true_and]
        have ih := checkWaves_l0 ws R post (pre ++ [x]) (fun y hy => hw y (by simp [hy])) (by simpa using hl) (fun hp => h (by rw [e]; exact hp))
        rw [← mid_snoc] at ih
        rw [e]
        exact Ev.congr (fun k => if_pos c) ih
      · have e : allV (x :: post) = false := by
          rw [e0]
          cases hv : vld x
          · rfl
          · exact absurd hv c
        rw [e]
        exact Ev.congr (fun k => if_neg c) (Ev.now _)
def cwV (ws : List (List S48)) : Int := if allV ws = true then (if allS (sm (ws.headD [])) ws = true then 0 else 17) else 1
theorem checkWaves_ev {l : List ByteArray} {ws : List (List S48)} (hw : WWf ws) (hl : ws.length ≤ 262144) (e : ws.length = l.length) (hpos : 0 < ws.length) : Ev (fun k => capture_checkWaves.f k l ws) (cwV ws) := by
  have h := checkWaves_l0 ws (if allS (sm (ws.headD [])) ws = true then 0 else 17) ws [] hw hl (fun hv => by
    cases ws with
    | nil => simp at hpos
    | cons w0 t =>
      have h0 : vld w0 = true := by
        unfold allV at hv
        rw [List.all_cons, Bool.and_eq_true] at hv
        exact hv.1
      exact checkWaves_l1 w0 (w0 :: t) h0 (hw w0 (by simp)).1 (by simp [rd_L3, List.getD]) (by simp) (w0 :: t) [] hw hv hl)
  refine Ev.congr (fun k => ?_) h
  unfold capture_checkWaves.f
  rw [if_pos (by omega)]
  rfl
def bldV (l : List ByteArray) (ws : List (List S48)) : List ByteArray × List S48 × Int :=
  if nmsV l = 0 then (if ws.length = l.length then (if cwV ws = 0 then (if 262144 < (mrg (sm (ws.headD [])).toNat [] ws).length then ([], [], 6) else (l, mrg (sm (ws.headD [])).toNat [] ws, 0)) else ([], [], cwV ws)) else ([], [], 1)) else ([], [], nmsV l)
theorem nms_0 {l : List ByteArray} (h : nmsV l = 0) : l.length ≤ 16 ∧ 0 < l.length := by
  unfold nmsV at h
  by_cases c : 16 < l.length
  · rw [if_pos c] at h
    omega
  · rw [if_neg c] at h
    by_cases c1 : l.length = 0
    · rw [if_pos c1] at h
      omega
    · omega
theorem nms_6 {l : List ByteArray} (h : 16 < l.length) : nmsV l = 6 := by
  unfold nmsV
  rw [if_pos h]
theorem cw_0 {ws : List (List S48)} (h : cwV ws = 0) : WavesOk (sm (ws.headD [])) ws ∧ (∀ w ∈ ws, vld w = true) := by
  unfold cwV at h
  by_cases c : allV ws = true
  · rw [if_pos c] at h
    by_cases c1 : allS (sm (ws.headD [])) ws = true
    · have h1 : ∀ w ∈ ws, vld w = true := List.all_eq_true.1 c
      have h2 : ∀ w ∈ ws, decide (sm w = sm (ws.headD [])) = true := List.all_eq_true.1 c1
      exact ⟨fun w hw => ⟨(vld_ok (h1 w hw)).1, (vld_ok (h1 w hw)).2.1, of_decide_eq_true (h2 w hw)⟩, h1⟩
    · rw [if_neg c1] at h
      omega
  · rw [if_neg c] at h
    omega
theorem head_ok {ws : List (List S48)} (hpos : 0 < ws.length) (h : ∀ w ∈ ws, vld w = true) : 0 ≤ sm (ws.headD []) ∧ sm (ws.headD []) ≤ 1099511627776 := by
  cases ws with
  | nil => simp at hpos
  | cons w t => exact (vld_ok (h w (by simp))).2.2
theorem Build_ev {l : List ByteArray} {ws : List (List S48)} (hs : StrsOk l) (hw : WWf ws) (hl : l.length ≤ 140737488351232) (hwl : ws.length ≤ 140737488351232) : Ev (fun k => capture_Build.f k l ws) (bldV l ws) := by
  unfold bldV
  by_cases c16 : 16 < l.length
  · rw [nms_6 c16, if_neg (by decide)]
    refine Ev.congr (fun k => ?_) (Ev.now _)
    unfold capture_Build.f
    rw [if_pos (by omega)]
  · refine Ev.congr (fun k => by unfold capture_Build.f; exact if_neg (by omega)) (Ev.bind (checkNames_ev hs hl (by omega)) ?_)
    by_cases c : nmsV l = 0
    · rw [if_pos c]
      refine Ev.congr (fun k => if_pos c) ?_
      have hn := nms_0 c
      by_cases cl : ws.length = l.length
      · rw [if_pos cl]
        refine Ev.bind (checkWaves_ev hw (by omega) cl (by omega)) ?_
        by_cases cw : cwV ws = 0
        · rw [if_pos cw]
          have hk := cw_0 cw
          refine Ev.congr (fun k => if_pos cw) (Ev.bind (merge_ev (by omega) (by intro e; rw [e] at cl; simp at cl; omega) (head_ok (by omega) hk.2) hk.1) ?_)
          by_cases c6 : 262144 < (mrg (sm (ws.headD [])).toNat [] ws).length
          · rw [if_pos c6]
            exact Ev.congr (fun k => if_pos (by omega)) (Ev.now _)
          · rw [if_neg c6]
            refine Ev.congr (fun k => (if_neg (by omega)).trans ?_) (Ev.now _)
            unfold slices_Clone_string.f
            rw [if_pos (by omega)]
            rfl
        · rw [if_neg cw]
          exact Ev.congr (fun k => if_neg cw) (Ev.now _)
      · rw [if_neg cl]
        have h1 : Ev (fun k => capture_checkWaves.f k l ws) 1 := by
          refine Ev.congr (fun k => ?_) (Ev.now _)
          unfold capture_checkWaves.f
          rw [if_neg (by omega)]
        exact Ev.bind h1 (Ev.congr (fun k => if_neg (by decide)) (Ev.now _))
    · rw [if_neg c]
      exact Ev.congr (fun k => if_neg c) (Ev.now _)
theorem ixS_app (s : ByteArray) (post : List ByteArray) : ∀ (pre : List ByteArray) (n : Nat), ixS s n pre < 0 → ixS s n (pre ++ post) = ixS s (n + pre.length) post
  | [], n, h => rfl
  | t :: pre, n, h => by
    by_cases c : s.toList = t.toList
    · unfold ixS at h
      rw [if_pos c] at h
      omega
    · unfold ixS at h
      rw [if_neg c] at h
      have ih := ixS_app s post pre (n + 1) h
      rw [List.cons_append, ixS, if_neg c, ih, List.length_cons, show n + 1 + pre.length = n + (pre.length + 1) by omega]
theorem ixS_own {pre post : List ByteArray} {x : ByteArray} (h : dupS pre (x :: post) = false) : ixS x 0 (pre ++ x :: post) = (pre.length : Int) ∧ dupS (pre ++ [x]) post = false := by
  unfold dupS at h
  by_cases c : ixS x 0 pre ≥ 0
  · rw [if_pos c] at h
    cases h
  · rw [if_neg c] at h
    refine ⟨?_, h⟩
    rw [ixS_app x _ pre 0 (by omega), Nat.zero_add, ixS, if_pos rfl]
theorem nms_dup {l : List ByteArray} (h : nmsV l = 0) : dupS [] l = false := by
  have h1 := nms_0 h
  unfold nmsV at h
  rw [if_neg (by omega), if_neg (by omega)] at h
  by_cases c : nmA l = true
  · rw [if_pos c] at h
    cases e : dupS [] l
    · rfl
    · rw [e] at h
      simp at h
  · rw [if_neg c] at h
    omega
theorem chs_snoc : ∀ (n i : Nat) (c : List S48), chs i n c ++ [chR ((i + n : Nat) : Int) c] = chs i (n + 1) c
  | 0, i, c => rfl
  | n + 1, i, c => by
    have ih := chs_snoc n (i + 1) c
    rw [show i + 1 + n = i + (n + 1) by omega] at ih
    rw [chs, List.cons_append, ih]
    rfl
theorem chs_len : ∀ (n i : Nat) (c : List S48), (chs i n c).length = n
  | 0, i, c => rfl
  | n + 1, i, c => by rw [chs, List.length_cons, chs_len n (i + 1) c]
theorem pre1_ok {m : Int} {x : S48} {L : List S48} (h : RunsM m L) (hx : 0 ≤ x.f0 ∧ x.f0 ≤ m ∧ 1 ≤ x.f1) : RunsM m (pre1 x L) := by
  cases L with
  | nil =>
    intro y hy
    simp only [pre1, List.mem_singleton] at hy
    subst hy
    exact hx
  | cons z zs =>
    have hz := h.cons
    rw [pre1_cons]
    by_cases c : z.f0 = x.f0
    · rw [if_pos c]
      intro y hy
      rcases List.mem_cons.1 hy with rfl | hy
      · exact ⟨hx.1, hx.2.1, by show 1 ≤ x.f1 + z.f1; omega⟩
      · exact hz.2 y hy
    · rw [if_neg c]
      intro y hy
      rcases List.mem_cons.1 hy with rfl | hy
      · exact hx
      · exact h y hy
theorem clR_ok {m : Int} : ∀ {l : List S48}, RunsM m l → RunsM m (clR l)
  | [], h => h
  | x :: l, h => pre1_ok (clR_ok h.cons.2) h.cons.1
theorem bit_01 {v i : Int} (hv : 0 ≤ v ∧ v < 65536) (hi : 0 ≤ i ∧ i < 64) : 0 ≤ bit v i ∧ bit v i ≤ 1 := by
  obtain ⟨a, rfl⟩ := Int.eq_ofNat_of_zero_le hv.1
  obtain ⟨k, rfl⟩ := Int.eq_ofNat_of_zero_le hi.1
  rw [bitN (by omega) (by omega)]
  cases a.testBit k <;> simp
theorem chR_ok {m i : Int} (hm : m < 65536) (hi : 0 ≤ i ∧ i < 64) : ∀ {l : List S48}, RunsM m l → RunsM 1 (chR i l)
  | [], h => fun y hy => by simp [chR] at hy
  | x :: l, h => by
    have hx := h.cons
    have hb := bit_01 (v := x.f0) (i := i) (by omega) hi
    exact pre1_ok (chR_ok hm hi hx.2) ⟨hb.1, hb.2, hx.1.2.2⟩
theorem pre1_len (x : S48) (L : List S48) : (pre1 x L).length ≤ L.length + 1 := by
  cases L with
  | nil => simp [pre1]
  | cons z zs =>
    rw [pre1_cons]
    by_cases c : z.f0 = x.f0
    · rw [if_pos c]
      simp
    · rw [if_neg c]
      simp
theorem clR_len : ∀ (l : List S48), (clR l).length ≤ l.length
  | [] => Nat.le_refl _
  | x :: l => by
    have := pre1_len x (clR l)
    have := clR_len l
    simp only [clR, List.length_cons]
    omega
theorem chR_len (i : Int) : ∀ (l : List S48), (chR i l).length ≤ l.length
  | [] => Nat.le_refl _
  | x :: l => by
    have := pre1_len ⟨bit x.f0 i, x.f1⟩ (chR i l)
    have := chR_len i l
    simp only [chR, List.length_cons]
    omega
theorem smT_len : ∀ {l : List S48}, Tk l → (l.length : Int) ≤ sm l
  | [], _ => Int.le_refl _
  | x :: l, h => by
    have h1 := h.cons
    have h2 := smT_len h1.2
    simp only [sm, List.length_cons]
    omega
theorem mk_pow {l : List ByteArray} (h : l.length ≤ 16) : mk l < 2 ^ l.length := by
  obtain ⟨n, hn⟩ : ∃ n, n = l.length := ⟨_, rfl⟩
  unfold mk
  rw [← hn] at h ⊢
  clear hn
  have : ∀ n : Fin 17, wrap64 ((shl .i64 1 ((n.val : Nat) : Int)) - 1) < 2 ^ n.val := by decide +kernel
  exact this ⟨n, by omega⟩
theorem vld_of1 {w : List S48} (h : RunsM 1 w) (hl : w.length ≤ 262144) (hs : sm w ≤ 1099511627776) : vld w = true :=
  vld_iff.2 ⟨hl, fun y hy => by have := h y hy; omega, hs⟩
/-- What the channels of clean runs build. -/
theorem bldV_chs {l : List ByteArray} {r : List S48} (hc : chkV l r = 0) : bldV l (chs 0 l.length (clR r)) = (l, clR r, 0) := by
  have h := chk_0 hc
  have hn := nms_0 h.2.1
  have hk := mk_le hn.1
  have hok := clR_ok h.2.2.1
  have hlen := clR_len r
  have hv : ∀ w ∈ chs 0 l.length (clR r), vld w = true ∧ sm w = sm r := fun w hw => by
    obtain ⟨k, h1, h2, rfl⟩ := (mem_chs _ _ _ _).1 hw
    have h3 := chR_len (k : Int) (clR r)
    refine ⟨vld_of1 (chR_ok (m := mk l) (by omega) (by omega) hok) (by omega) (by rw [chR_sm, clR_sm]; exact h.2.2.2), by rw [chR_sm, clR_sm]⟩
  have hh : sm ((chs 0 l.length (clR r)).headD []) = sm r := by
    obtain ⟨n, en⟩ : ∃ n, l.length = n + 1 := ⟨l.length - 1, by omega⟩
    rw [en]
    show sm (chR _ (clR r)) = _
    rw [chR_sm, clR_sm]
  have hcw : cwV (chs 0 l.length (clR r)) = 0 := by
    unfold cwV
    rw [hh, if_pos (by unfold allV; exact List.all_eq_true.2 (fun w hw => (hv w hw).1)), if_pos (by unfold allS; exact List.all_eq_true.2 (fun w hw => decide_eq_true (hv w hw).2))]
  have htk : Tk (clR r) := hok.tk
  have hsl := smT_len htk
  rw [clR_sm] at hsl
  have hp := mk_pow hn.1
  have hm : mrg (sm r).toNat [] (chs 0 l.length (clR r)) = clR r := by
    rw [mrg_chs (by omega) hn.1 (clR r) [] (sm r).toNat (by omega) htk (by rw [clR_sm]; exact h.2.2.2) (fun z hz => by have := hok z hz; omega) (apR_clR r), cln_eq, clR_clR]
  unfold bldV
  rw [if_pos h.2.1, if_pos (chs_len _ _ _), if_pos hcw, hh, hm, if_neg (by omega)]
theorem Builds_l1 (l : List ByteArray) (r : List S48) (d : List ByteArray) (s : List S48) (hs : s.length ≤ 262144) : ∀ (post pre : List S48) (x : S48), s = pre ++ x :: post → apR (x :: post) →
    Ev (fun k => signalbenchlaw09_CaptureBuilds.l1 k (((pre ++ [x]).length : Nat) : Int) l r d s) (decide ((s.length : Int) ≤ (r.length : Int)))
  | [], pre, x, e, ha => by
    have e1 : s.length = (pre ++ [x]).length := by rw [e]
    refine Ev.step (f := fun _ => some (decide ((s.length : Int) ≤ (r.length : Int)))) (fun k => ?_) (Ev.now _)
    simp only [signalbenchlaw09_CaptureBuilds.l1]
    rw [if_neg (by omega)]
  | y :: post, pre, x, e, ha => by
    have e1 : s = (pre ++ [x]) ++ y :: post := by rw [e]; simp
    have e2 : (((pre ++ [x]).length : Nat) : Int) = (pre.length : Int) + 1 := by simp
    have hl : pre.length ≤ 262144 := by
      rw [e] at hs
      simp only [List.length_append] at hs
      omega
    have e3 : wrap64 ((((pre ++ [x]).length : Nat) : Int) - 1) = (pre.length : Int) := by
      rw [w64 (by omega) (by omega)]
      omega
    have r1 : rd_T48 s (((pre ++ [x]).length : Nat) : Int) = y := by
      rw [e1]
      exact rd_mid (pre ++ [x]) post y
    have r0 : rd_T48 s (pre.length : Int) = x := by
      rw [e]
      exact rd_mid pre (y :: post) x
    have l1 : (((pre ++ [x]).length : Nat) : Int) < (s.length : Int) := by
      rw [e1]
      exact mid_lt (pre ++ [x]) post y
    refine Ev.step (fun k => ?_) (Builds_l1 l r d s hs post (pre ++ [x]) y e1 ha.2)
    simp only [signalbenchlaw09_CaptureBuilds.l1]
    rw [if_pos l1, if_pos (by omega), e3, if_pos (by omega), if_pos (by omega), r1, r0, if_neg ha.1, succ_mid _ _ (by omega)]
theorem eqRV_refl (a : List S48) : eqRV a a = true := by
  unfold eqRV
  rw [if_pos rfl]
  exact eqR_refl a
theorem eqSV_refl (a : List ByteArray) : eqSV a a = true := by
  unfold eqSV
  rw [if_pos rfl]
  exact eqS_refl a
theorem Builds_l0 {l : List ByteArray} {r : List S48} (hs : StrsOk l) (hc : chkV l r = 0) (hlr : r.length ≤ 2000) : ∀ (post pre : List ByteArray), l = pre ++ post → dupS pre post = false →
    Ev (fun k => signalbenchlaw09_CaptureBuilds.l0 k (chs 0 pre.length (clR r)) (pre.length : Int) l r) true
  | [], pre, e, hd => by
    have h := chk_0 hc
    have hn := nms_0 h.2.1
    have e1 : pre = l := by rw [e]; simp
    subst e1
    have hb := bldV_chs hc
    have hclr := clR_len r
    have hok := clR_ok h.2.2.1
    have hwwf : WWf (chs 0 pre.length (clR r)) := fun w hw => by
      obtain ⟨k, h1, h2, rfl⟩ := (mem_chs _ _ _ _).1 hw
      have h3 := chR_len (k : Int) (clR r)
      have hk := mk_le hn.1
      have h4 := chR_ok (m := mk pre) (i := (k : Int)) (by omega) (by omega) hok
      have h5 : Tk (chR (k : Int) (clR r)) := h4.tk
      have h6 : sm (chR (k : Int) (clR r)) ≤ 1099511627776 := by rw [chR_sm, clR_sm]; exact h.2.2.2
      refine ⟨fun y hy => ?_, by omega⟩
      have h7 := h4 y hy
      have h8 := leT_sm h5 y hy
      unfold RunWf
      simp [Lit.wf, IntKind.min, IntKind.max, IntKind.bits, IntKind.signed]
      omega
    have hB := Build_ev hs hwwf (by omega) (by rw [chs_len]; omega)
    rw [hb] at hB
    have hck : chkV pre (clR r) = 0 := chkV_of (by omega) h.2.1 hok (by rw [clR_sm]; exact h.2.2.2)
    have hS := Same_ev (r := r) (s := clR r) hs hs (by omega) (by omega) (by omega) (by omega)
    have eS : samV pre r pre (clR r) = true := by
      unfold samV
      rw [if_pos ⟨hc, hck, eqSV_refl pre⟩, cln_eq, cln_eq, clR_clR]
      exact eqRV_refl _
    rw [eS] at hS
    have hL1 := Long_ev (r := clR r) hs (by omega) (by omega)
    have hL0 := Long_ev (r := r) hs (by omega) (by omega)
    have eL : longC pre (clR r) = longC pre r := by
      unfold longC
      rw [if_pos hc, if_pos hck, clR_sm]
    rw [eL] at hL1
    refine Ev.step (f := fun k => (capture_Build.f k pre (chs 0 pre.length (clR r))).bind fun bt468 => (if bt468.2.2 = 0 then ((capture_Same.f k pre r bt468.1 bt468.2.1).bind fun t476 => (if t476 = true then ((capture_Long.f k bt468.1 bt468.2.1).bind fun t477 => ((capture_Long.f k pre r).bind fun t478 => (signalbenchlaw09_CaptureBuilds.j2 k (t477 != t478) pre r bt468.1 bt468.2.1))) else (signalbenchlaw09_CaptureBuilds.j2 k true pre r bt468.1 bt468.2.1))) else (signalbenchlaw09_CaptureBuilds.j2 k true pre r bt468.1 bt468.2.1))) (fun k => ?_) (Ev.bind hB (Ev.congr (fun k => if_pos rfl) (Ev.bind hS (Ev.congr (fun k => if_pos rfl) (Ev.bind hL1 (Ev.bind hL0 ?_))))))
    · simp only [signalbenchlaw09_CaptureBuilds.l0]
      rw [if_neg (by omega)]
    · rw [bne_self_eq_false]
      have he : decide (((clR r).length : Int) ≤ (r.length : Int)) = true := decide_eq_true (by omega)
      refine Ev.step (f := fun k => signalbenchlaw09_CaptureBuilds.l1 k 1 pre r pre (clR r)) (fun k => ?_) ?_
      · simp only [signalbenchlaw09_CaptureBuilds.j2]
        rw [if_neg (by decide)]
      · cases ec : clR r with
        | nil =>
          rw [ec] at he
          refine Ev.step (f := fun _ => some true) (fun k => ?_) (Ev.now _)
          simp only [signalbenchlaw09_CaptureBuilds.l1]
          rw [if_neg (by simp), he]
        | cons x c =>
          have ha := apR_clR r
          rw [ec] at ha he
          have := Builds_l1 pre r pre (x :: c) (by rw [← ec]; omega) c [] x rfl ha
          rw [he] at this
          exact this
  | x :: post, pre, e, hd => by
    have h := chk_0 hc
    have hn := nms_0 h.2.1
    have hx := ixS_own hd
    have hlt : (pre.length : Int) < (l.length : Int) := by
      rw [e]
      exact mids_lt pre post x
    have hr : rdOf ByteArray.empty l (pre.length : Int) = x := by
      rw [e]
      exact rds_mid pre post x
    have hCh := Channel_ev (s := x) hs (by omega) (show r.length ≤ 140737488351232 by omega)
    have eC : chV l r x = (chR (pre.length : Int) (clR r), 0) := by
      unfold chV
      have e3 : ixS x 0 l = (pre.length : Int) := by
        rw [e]
        exact hx.1
      rw [if_pos hc, e3, if_neg (by omega), chC_eq, chR_clR]
    rw [eC] at hCh
    have ih := Builds_l0 hs hc hlr post (pre ++ [x]) (by simpa using e) hx.2
    have e4 : chs 0 (pre ++ [x]).length (clR r) = chs 0 pre.length (clR r) ++ [chR (pre.length : Int) (clR r)] := by
      rw [show (pre ++ [x]).length = pre.length + 1 by simp, ← chs_snoc, Nat.zero_add]
    rw [e4] at ih
    refine Ev.step (f := fun k => (capture_Channel.f k l r x).bind fun bt461 => (if bt461.2 = 0 then (if (chs 0 pre.length (clR r)).length < 5864062014805 then (signalbenchlaw09_CaptureBuilds.l0 k (chs 0 pre.length (clR r) ++ [bt461.1]) ((pre ++ [x]).length : Int) l r) else (none)) else (some false))) (fun k => ?_) (Ev.bind hCh (Ev.congr (fun k => (if_pos rfl).trans (if_pos (by rw [chs_len]; omega))) ih))
    simp only [signalbenchlaw09_CaptureBuilds.l0]
    rw [if_pos hlt, if_pos (Int.natCast_nonneg _), hr, succ_mid pre x (by omega)]
theorem CaptureBuilds_pure {l : List ByteArray} {r : List S48} (hs : StrsOk l) : ∃ k, signalbenchlaw09_CaptureBuilds.f k l r = some true := by
  refine Ev.rounds (Ev.bind lives09_ev (Ev.congr (fun k => if_pos rfl) ?_))
  have hj : Ev (fun k => signalbenchlaw09_CaptureBuilds.j0 k true l r) true := Ev.step (f := fun _ => some true) (fun k => by simp only [signalbenchlaw09_CaptureBuilds.j0]; rfl) (Ev.now _)
  rw [few09_eq]
  refine Ev.congr (fun k => Option.bind_some _ _) ?_
  by_cases c : fewV l r = true
  · have hf : l.length ≤ 100 ∧ r.length ≤ 2000 := of_decide_eq_true c
    refine Ev.congr (fun k => if_pos c) (Ev.bind (Check_ev hs (by omega) (by omega)) ?_)
    by_cases c1 : chkV l r = 0
    · rw [c1]
      refine Ev.step (fun k => ?_) (Builds_l0 hs c1 hf.2 l [] rfl (nms_dup (chk_0 c1).2.1))
      simp only [signalbenchlaw09_CaptureBuilds.j0]
      rw [if_neg (by decide)]
      rfl
    · rw [show (chkV l r != 0) = true from bne_iff_ne.2 c1]
      exact hj
  · exact Ev.congr (fun k => if_neg c) hj
end Go.Proofs.Yteafkdadpdofjaa
