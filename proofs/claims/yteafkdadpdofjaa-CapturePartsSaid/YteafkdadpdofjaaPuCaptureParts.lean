/- The law CaptureParts as a plain statement on numbers and lists: with enough rounds it answers true; conditions: each number is one of its kind, no list or string is longer than its memory allows. -/
import Derived.Laws.BitsAllLaws
import Derived.WalkKit
import Derived.Test.YteafkdadpdofjaaWMore
import Derived.Laws.Strings
import Derived.Test.YteafkdadpdofjaaQx0
import Derived.Test.YteafkdadpdofjaaQx3
import Derived.Test.YteafkdadpdofjaaQx4
import Derived.Test.YteafkdadpdofjaaQx6
import Derived.Test.YteafkdadpdofjaaQx7
import Derived.Test.YteafkdadpdofjaaQx13
import Derived.Test.YteafkdadpdofjaaQx14
import Derived.Test.YteafkdadpdofjaaQx16
import Derived.Test.YteafkdadpdofjaaQx17
import Derived.Test.YteafkdadpdofjaaQx18
import Derived.Test.YteafkdadpdofjaaQx21
import Derived.Test.YteafkdadpdofjaaQx26
import Derived.Test.YteafkdadpdofjaaQx27
namespace Go.Proofs.Yteafkdadpdofjaa
open Go Go.RowKit Go.Proofs.YteafkdadpdofjaaW.PrintWords Go.Proofs.YteafkdadpdofjaaW.PrintLast Go.Proofs.Yteafkdadpdofjaa.Q
set_option linter.unusedVariables false
theorem w64 {x : Int} (h0 : -9223372036854775808 ≤ x) (h1 : x ≤ 9223372036854775807) : wrap64 x = x := by
  unfold wrap64
  omega
theorem wf64 {x : Int} (h : (Lit.int .i64 x).wf = true) : -9223372036854775808 ≤ x ∧ x ≤ 9223372036854775807 := by
  simp [Lit.wf, IntKind.min, IntKind.max, IntKind.bits, IntKind.signed] at h
  omega
theorem succ_mid {α : Type} (pre : List α) (x : α) (h : pre.length ≤ 9223372036854775806) : wrap64 ((pre.length : Int) + 1) = ((pre ++ [x]).length : Int) := by
  rw [w64 (by omega) (by omega)]
  simp
theorem mid_snoc {α : Type} (pre post : List α) (x : α) : pre ++ x :: post = (pre ++ [x]) ++ post := by simp
def wd (c : Int) : Bool := if 97 ≤ c ∧ c ≤ 122 then true else if 48 ≤ c ∧ c ≤ 57 then true else if c = 95 then true else false
def wAll (s : ByteArray) : Nat → Nat → Bool
  | 0, _ => true
  | m + 1, i => if wd (bt s (i : Int)) = true then wAll s m (i + 1) else false
def nmOk (s : ByteArray) : Bool := if s.size = 0 then false else if 16 < s.size then false else if 97 ≤ bt s 0 ∧ bt s 0 ≤ 122 then wAll s s.size 0 else false
theorem w32 {x : Int} (h0 : 0 ≤ x) (h1 : x ≤ 255) : wrap32 x = x := by
  unfold wrap32
  omega
theorem nil_iff (s : ByteArray) : s.toList = ([] : List UInt8) ↔ s.size = 0 := by
  rw [ByteArray.toList_eq, ← List.length_eq_zero_iff, data_length]
theorem lex_letter_eq (c : Int) : lex_letter.f c = some (decide (97 ≤ c ∧ c ≤ 122)) := by
  unfold lex_letter.f
  by_cases h : 97 ≤ c <;> simp [h]
theorem lex_word_eq (c : Int) : lex_word.f c = some (wd c) := by
  unfold lex_word.f lex_digit.f wd
  rw [lex_letter_eq]
  by_cases h : 97 ≤ c ∧ c ≤ 122
  · simp [h]
  · by_cases h1 : 48 ≤ c
    · by_cases h2 : c ≤ 57
      · simp [h, h1, h2]
      · by_cases h3 : c = 95 <;> simp [h, h1, h2, h3]
    · by_cases h3 : c = 95 <;> simp [h, h1, h3]
theorem lex_Name_l0 (s : ByteArray) (hs : s.size ≤ 140737488351232) : ∀ (m i : Nat), i + m = s.size → Ev (fun k => lex_Name.l0 k s (s.size : Int) (i : Int)) (wAll s m i)
  | 0, i, h => by
    refine Ev.step (f := fun _ => some true) (fun k => ?_) (Ev.now _)
    simp only [lex_Name.l0]
    rw [if_neg (by omega)]
  | m + 1, i, h => by
    have hb := bt_range s (i : Int)
    have hst : ∀ k, lex_Name.l0 (k + 1) s (s.size : Int) (i : Int) = if wd (bt s (i : Int)) = true then lex_Name.l0 k s (s.size : Int) ((i + 1 : Nat) : Int) else some false := by
      intro k
      simp only [lex_Name.l0]
      rw [if_pos (by omega), if_pos (by omega), if_pos (by omega), lex_word_eq, w32 hb.1 hb.2, Option.bind_some, w64 (by omega) (by omega)]
      rfl
    unfold wAll
    by_cases c : wd (bt s (i : Int)) = true
    · rw [if_pos c]
      exact Ev.step (fun k => (hst k).trans (if_pos c)) (lex_Name_l0 s hs m (i + 1) (by omega))
    · rw [if_neg c]
      exact Ev.step (fun k => (hst k).trans (if_neg c)) (Ev.now _)
theorem lex_Name_ev (s : ByteArray) (hs : s.size ≤ 140737488351232) : Ev (fun k => lex_Name.f k s) (nmOk s) := by
  have hb := bt_range s 0
  have hj : Ev (fun k => lex_Name.j0 k s true) false := Ev.step (f := fun _ => some false) (fun k => by simp only [lex_Name.j0]; rfl) (Ev.now _)
  unfold nmOk
  by_cases h0 : s.size = 0
  · rw [if_pos h0]
    refine Ev.congr (fun k => ?_) hj
    unfold lex_Name.f
    rw [if_pos ((nil_iff s).2 h0)]
  · rw [if_neg h0]
    have hn : ¬ s.toList = [] := fun h => h0 ((nil_iff s).1 h)
    by_cases h1 : 16 < s.size
    · rw [if_pos h1]
      refine Ev.congr (fun k => ?_) hj
      unfold lex_Name.f
      rw [if_neg hn, if_pos (by omega)]
    · rw [if_neg h1]
      have e : ∀ k, lex_Name.f k s = lex_Name.j0 k s (!(decide (97 ≤ bt s 0 ∧ bt s 0 ≤ 122))) := by
        intro k
        unfold lex_Name.f
        rw [if_neg hn, if_neg (by omega), if_pos (by omega), lex_letter_eq, w32 hb.1 hb.2]
        rfl
      refine Ev.congr e ?_
      by_cases h2 : 97 ≤ bt s 0 ∧ bt s 0 ≤ 122
      · rw [if_pos h2, decide_eq_true h2]
        refine Ev.step (fun k => ?_) (lex_Name_l0 s hs s.size 0 (by omega))
        simp only [lex_Name.j0]
        rw [if_neg (by decide)]
        rfl
      · rw [if_neg h2, decide_eq_false h2]
        exact hj
def StrsOk (l : List ByteArray) : Prop := ∀ s ∈ l, s.size ≤ 140737488351232
def nmA : List ByteArray → Bool
  | [] => true
  | s :: l => if nmOk s = true then nmA l else false
theorem rds_mid (pre post : List ByteArray) (x : ByteArray) : rdOf ByteArray.empty (pre ++ x :: post) (pre.length : Int) = x := by simp [rdOf, List.getD]
theorem mids_lt (pre post : List ByteArray) (x : ByteArray) : (pre.length : Int) < ((pre ++ x :: post).length : Int) := by
  simp only [List.length_append, List.length_cons]
  omega
/-- The first place of a name, or -1. -/
def ixS (s : ByteArray) : Nat → List ByteArray → Int
  | _, [] => -1
  | n, t :: l => if s.toList = t.toList then (n : Int) else ixS s (n + 1) l
theorem Index_l0 (s : ByteArray) : ∀ (post pre : List ByteArray), (pre ++ post).length ≤ 140737488351232 →
    Ev (fun k => slices_Index_string.l0 k (pre ++ post) s ((pre ++ post).length : Int) (pre.length : Int)) (ixS s pre.length post)
  | [], pre, hl => by
    refine Ev.step (f := fun _ => some (-1)) (fun k => ?_) (Ev.now _)
    simp only [slices_Index_string.l0]
    rw [if_neg (by simp)]
  | x :: post, pre, hl => by
    have hlt := mids_lt pre post x
    have hn : pre.length ≤ 9223372036854775806 := by
      simp only [List.length_append, List.length_cons] at hl
      omega
    have hst : ∀ k, slices_Index_string.l0 (k + 1) (pre ++ x :: post) s ((pre ++ x :: post).length : Int) (pre.length : Int) = if s.toList = x.toList then some (pre.length : Int) else slices_Index_string.l0 k (pre ++ x :: post) s ((pre ++ x :: post).length : Int) ((pre ++ [x]).length : Int) := by
      intro k
      simp only [slices_Index_string.l0]
      rw [rds_mid, if_pos hlt, if_pos (by omega), if_pos hlt, succ_mid _ _ hn]
    unfold ixS
    by_cases c : s.toList = x.toList
    · rw [if_pos c]
      exact Ev.step (fun k => (hst k).trans (if_pos c)) (Ev.now _)
    · rw [if_neg c]
      have ih := Index_l0 s post (pre ++ [x]) (by simpa using hl)
      rw [← mid_snoc] at ih
      have e : (pre ++ [x]).length = pre.length + 1 := by simp
      rw [e] at ih
      refine Ev.step (fun k => (hst k).trans (if_neg c)) ?_
      rw [e]
      exact ih
theorem Index_ev (l : List ByteArray) (s : ByteArray) (hl : l.length ≤ 140737488351232) : Ev (fun k => slices_Index_string.f k l s) (ixS s 0 l) := Ev.congr (fun k => rfl) (Index_l0 s l [] (by simpa using hl))
theorem Contains_ev (l : List ByteArray) (s : ByteArray) (hl : l.length ≤ 140737488351232) : Ev (fun k => slices_Contains_string.f k l s) (decide (ixS s 0 l ≥ 0)) := Ev.bind (Index_ev l s hl) (Ev.now _)
def dupS : List ByteArray → List ByteArray → Bool
  | _, [] => false
  | pre, x :: post => if ixS x 0 pre ≥ 0 then true else dupS (pre ++ [x]) post
def nmsV (l : List ByteArray) : Int := if 16 < l.length then 6 else if l.length = 0 then 1 else if nmA l = true then (if dupS [] l = true then 9 else 0) else 4
theorem checkNames_l1 : ∀ (post pre : List ByteArray), (pre ++ post).length ≤ 140737488351232 →
    Ev (fun k => capture_checkNames.l1 k (pre ++ post) (pre ++ post) ((pre ++ post).length : Int) (pre.length : Int)) (if dupS pre post = true then 9 else 0)
  | [], pre, hl => by
    refine Ev.step (f := fun _ => some 0) (fun k => ?_) ?_
    · simp only [capture_checkNames.l1]
      rw [if_neg (by simp)]
    · rw [show (if dupS pre [] = true then (9 : Int) else 0) = 0 from rfl]
      exact Ev.now _
  | x :: post, pre, hl => by
    have hlt := mids_lt pre post x
    have hn : pre.length ≤ 9223372036854775806 := by
      simp only [List.length_append, List.length_cons] at hl
      omega
    have hp : pre.length ≤ 140737488351232 := by
      simp only [List.length_append, List.length_cons] at hl
      omega
    have hst : ∀ k, capture_checkNames.l1 (k + 1) (pre ++ x :: post) (pre ++ x :: post) ((pre ++ x :: post).length : Int) (pre.length : Int) = (slices_Contains_string.f k pre x).bind fun t111 => (if t111 = true then (some 9) else (capture_checkNames.l1 k (pre ++ x :: post) (pre ++ x :: post) ((pre ++ x :: post).length : Int) ((pre ++ [x]).length : Int))) := by
      intro k
      simp only [capture_checkNames.l1]
      rw [rds_mid, if_pos hlt, if_pos (by omega), if_pos hlt, if_pos (by omega), succ_mid _ _ hn, Int.toNat_natCast, List.take_left' rfl]
    refine Ev.step hst (Ev.bind (Contains_ev pre x hp) ?_)
    unfold dupS
    by_cases c : ixS x 0 pre ≥ 0
    · rw [if_pos c, decide_eq_true c]
      exact Ev.congr (fun k => if_pos rfl) (Ev.now _)
    · rw [if_neg c, decide_eq_false c]
      have ih := checkNames_l1 post (pre ++ [x]) (by simpa using hl)
      rw [← mid_snoc] at ih
      exact Ev.congr (fun k => if_neg (by decide)) ih
theorem checkNames_l0 : ∀ (post pre : List ByteArray) (R : Int), StrsOk post → (pre ++ post).length ≤ 140737488351232 → Ev (fun k => capture_checkNames.l1 k (pre ++ post) (pre ++ post) ((pre ++ post).length : Int) 0) R →
    Ev (fun k => capture_checkNames.l0 k (pre ++ post) (pre ++ post) ((pre ++ post).length : Int) (pre.length : Int)) (if nmA post = true then R else 4)
  | [], pre, R, hs, hl, hR => by
    refine Ev.step (fun k => ?_) (Ev.congr (fun k => rfl) hR)
    simp only [capture_checkNames.l0]
    rw [if_neg (by simp)]
  | x :: post, pre, R, hs, hl, hR => by
    have hlt := mids_lt pre post x
    have hn : pre.length ≤ 9223372036854775806 := by
      simp only [List.length_append, List.length_cons] at hl
      omega
    have hst : ∀ k, capture_checkNames.l0 (k + 1) (pre ++ x :: post) (pre ++ x :: post) ((pre ++ x :: post).length : Int) (pre.length : Int) = (lex_Name.f k x).bind fun t108 => (if t108 = true then (capture_checkNames.l0 k (pre ++ x :: post) (pre ++ x :: post) ((pre ++ x :: post).length : Int) ((pre ++ [x]).length : Int)) else (some 4)) := by
      intro k
      simp only [capture_checkNames.l0]
      rw [rds_mid, if_pos hlt, if_pos (by omega), if_pos hlt, succ_mid _ _ hn]
    refine Ev.step hst (Ev.bind (lex_Name_ev x (hs x (by simp))) ?_)
    unfold nmA
    by_cases c : nmOk x = true
    · rw [if_pos c, c]
      have ih := checkNames_l0 post (pre ++ [x]) R (fun y hy => hs y (by simp [hy])) (by simpa using hl) (by rw [← mid_snoc]; exact hR)
      rw [← mid_snoc] at ih
      exact Ev.congr (fun k => if_pos rfl) ih
    · rw [if_neg c, Bool.eq_false_iff.2 c]
      exact Ev.congr (fun k => if_neg (by decide)) (Ev.now _)
theorem checkNames_ev {l : List ByteArray} (hs : StrsOk l) (hl : l.length ≤ 140737488351232) (h16 : l.length ≤ 16) : Ev (fun k => capture_checkNames.f k l) (nmsV l) := by
  unfold nmsV
  rw [if_neg (by omega)]
  by_cases c : l.length = 0
  · rw [if_pos c]
    refine Ev.congr (fun k => ?_) (Ev.now _)
    unfold capture_checkNames.f
    rw [if_pos (by omega)]
  · rw [if_neg c]
    refine Ev.congr (fun k => ?_) (checkNames_l0 l [] _ hs (by simpa using hl) (checkNames_l1 l [] (by simpa using hl)))
    unfold capture_checkNames.f
    rw [if_neg (by omega)]
    rfl
theorem nmsV_0 {l : List ByteArray} (h : nmsV l = 0) : 1 ≤ l.length ∧ l.length ≤ 16 := by
  unfold nmsV at h
  by_cases c : 16 < l.length
  · rw [if_pos c] at h
    omega
  · rw [if_neg c] at h
    by_cases c1 : l.length = 0
    · rw [if_pos c1] at h
      omega
    · omega
def sm : List S48 → Int
  | [] => 0
  | x :: l => x.f1 + sm l
/-- Levels from 0 to m, and at least one tick each. -/
def RunsM (m : Int) (l : List S48) : Prop := ∀ x ∈ l, 0 ≤ x.f0 ∧ x.f0 ≤ m ∧ 1 ≤ x.f1
def rOk (m : Int) : Int → List S48 → Bool
  | left, [] => true
  | left, x :: l => if 0 ≤ x.f0 ∧ x.f0 ≤ m ∧ 1 ≤ x.f1 ∧ x.f1 ≤ left then rOk m (left - x.f1) l else false
theorem rd_mid (pre post : List S48) (x : S48) : rd_T48 (pre ++ x :: post) (pre.length : Int) = x := by simp [rd_T48, List.getD]
theorem mid_lt (pre post : List S48) (x : S48) : (pre.length : Int) < ((pre ++ x :: post).length : Int) := by
  simp only [List.length_append, List.length_cons]
  omega
theorem RunsM.cons {m : Int} {x : S48} {l : List S48} (h : RunsM m (x :: l)) : (0 ≤ x.f0 ∧ x.f0 ≤ m ∧ 1 ≤ x.f1) ∧ RunsM m l := ⟨h x (by simp), fun y hy => h y (by simp [hy])⟩
theorem smM_nonneg {m : Int} : ∀ {l : List S48}, RunsM m l → 0 ≤ sm l
  | [], _ => Int.le_refl _
  | x :: l, h => by
    have h1 := h.cons
    have h2 := smM_nonneg h1.2
    simp only [sm]
    omega
theorem sm_append : ∀ (a b : List S48), sm (a ++ b) = sm a + sm b
  | [], b => by simp [sm]
  | x :: a, b => by
    have := sm_append a b
    simp only [List.cons_append, sm]
    omega
theorem rOk_iff {m : Int} : ∀ {l : List S48} {left : Int}, 0 ≤ left → (rOk m left l = true ↔ RunsM m l ∧ sm l ≤ left)
  | [], left, h => by simp [rOk, RunsM, sm, h]
  | x :: l, left, h => by
    unfold rOk
    by_cases c : 0 ≤ x.f0 ∧ x.f0 ≤ m ∧ 1 ≤ x.f1 ∧ x.f1 ≤ left
    · rw [if_pos c, rOk_iff (l := l) (by omega)]
      simp only [RunsM, sm, List.mem_cons, forall_eq_or_imp]
      constructor
      · rintro ⟨h1, h2⟩
        exact ⟨⟨⟨c.1, c.2.1, c.2.2.1⟩, h1⟩, by omega⟩
      · rintro ⟨⟨h1, h2⟩, h3⟩
        exact ⟨h2, by omega⟩
    · rw [if_neg c]
      simp only [Bool.false_eq_true, false_iff]
      rintro ⟨h1, h2⟩
      have h3 := h1.cons
      have h4 := smM_nonneg h3.2
      simp only [sm] at h2
      exact c ⟨h3.1.1, h3.1.2.1, h3.1.2.2, by omega⟩
def mk (l : List ByteArray) : Int := wrap64 ((shl .i64 1 (l.length : Int)) - 1)
def chkV (l : List ByteArray) (r : List S48) : Int := if 262144 < r.length then 6 else if nmsV l = 0 then (if rOk (mk l) 1099511627776 r = true then 0 else 2) else nmsV l
theorem chk_0 {l : List ByteArray} {r : List S48} (h : chkV l r = 0) : r.length ≤ 262144 ∧ nmsV l = 0 ∧ RunsM (mk l) r ∧ sm r ≤ 1099511627776 := by
  unfold chkV at h
  by_cases c : 262144 < r.length
  · rw [if_pos c] at h
    omega
  · rw [if_neg c] at h
    by_cases c1 : nmsV l = 0
    · rw [if_pos c1] at h
      by_cases c2 : rOk (mk l) 1099511627776 r = true
      · exact ⟨by omega, c1, (rOk_iff (by omega)).1 c2⟩
      · rw [if_neg c2] at h
        omega
    · rw [if_neg c1] at h
      exact absurd h c1
theorem Check_l0 (m : Int) : ∀ (post pre : List S48) (left : Int), 0 ≤ left → left ≤ 1099511627776 → (pre ++ post).length ≤ 140737488351232 →
    Ev (fun k => capture_Check.l0 k m left (pre ++ post) ((pre ++ post).length : Int) (pre.length : Int)) (if rOk m left post = true then 0 else 2)
  | [], pre, left, h0, h1, hl => by
    rw [show (if rOk m left [] = true then (0 : Int) else 2) = 0 from rfl]
    refine Ev.step (f := fun _ => some 0) (fun k => ?_) (Ev.now _)
    simp only [capture_Check.l0]
    rw [if_neg (by simp)]
  | x :: post, pre, left, h0, h1, hl => by
    have hlt := mid_lt pre post x
    have hn : pre.length ≤ 9223372036854775806 := by
      simp only [List.length_append, List.length_cons] at hl
      omega
    unfold rOk
    by_cases c : 0 ≤ x.f0 ∧ x.f0 ≤ m ∧ 1 ≤ x.f1 ∧ x.f1 ≤ left
    · have ih := Check_l0 m post (pre ++ [x]) (left - x.f1) (by omega) (by omega) (by simpa using hl)
      rw [← mid_snoc] at ih
      rw [if_pos c]
      refine Ev.step (fun k => ?_) ih
      simp only [capture_Check.l0]
      rw [rd_mid, if_pos hlt, if_pos (by omega), if_pos hlt, if_neg (by omega), if_neg (by omega), if_neg (by omega), if_neg (by omega), w64 (by omega) (by omega), succ_mid _ _ hn]
    · rw [if_neg c, show (if false = true then (0 : Int) else 2) = 2 from rfl]
      refine Ev.step (f := fun _ => some 2) (fun k => ?_) (Ev.now _)
      simp only [capture_Check.l0]
      rw [rd_mid, if_pos hlt, if_pos (by omega), if_pos hlt]
      by_cases c1 : x.f0 < 0
      · rw [if_pos c1]
      · rw [if_neg c1]
        by_cases c2 : x.f0 > m
        · rw [if_pos c2]
        · rw [if_neg c2]
          by_cases c3 : x.f1 < 1
          · rw [if_pos c3]
          · rw [if_neg c3, if_pos (by omega)]
theorem Check_ev {l : List ByteArray} {r : List S48} (hs : StrsOk l) (hl : l.length ≤ 140737488351232) (hr : r.length ≤ 140737488351232) : Ev (fun k => capture_Check.f k l r) (chkV l r) := by
  have hj : Ev (fun k => capture_Check.j0 k true l r) 6 := Ev.step (f := fun _ => some 6) (fun k => by simp only [capture_Check.j0]; rfl) (Ev.now _)
  by_cases c : 16 < l.length
  · have e : chkV l r = 6 := by
      have e1 : nmsV l = 6 := by
        unfold nmsV
        rw [if_pos c]
      unfold chkV
      rw [e1]
      by_cases c1 : 262144 < r.length
      · rw [if_pos c1]
      · rw [if_neg c1]
        rfl
    rw [e]
    refine Ev.congr (fun k => ?_) hj
    unfold capture_Check.f
    rw [if_pos (by omega)]
  · have e : ∀ k, capture_Check.f k l r = capture_Check.j0 k (decide ((r.length : Int) > 262144)) l r := by
      intro k
      unfold capture_Check.f
      rw [if_neg (by omega)]
    refine Ev.congr e ?_
    unfold chkV
    by_cases c1 : 262144 < r.length
    · rw [if_pos c1, decide_eq_true (by omega)]
      exact hj
    · rw [if_neg c1, decide_eq_false (by omega)]
      refine Ev.step (f := fun k => (capture_checkNames.f k l).bind fun t113 => (if t113 = 0 then (capture_Check.l0 k (mk l) 1099511627776 r (r.length : Int) 0) else (some t113))) (fun k => ?_) (Ev.bind (checkNames_ev hs hl (by omega)) ?_)
      · simp only [capture_Check.j0]
        rw [if_neg (by decide)]
        rfl
      · by_cases c2 : nmsV l = 0
        · rw [if_pos c2]
          exact Ev.congr (fun k => if_pos c2) (Check_l0 (mk l) r [] 1099511627776 (by omega) (by omega) (by simpa using hr))
        · rw [if_neg c2]
          exact Ev.congr (fun k => if_neg c2) (Ev.now _)
theorem long_l0 {m : Int} : ∀ (post pre : List S48) (s : Int), 0 ≤ s → s + sm post ≤ 4611686018427387904 → RunsM m post → (pre ++ post).length ≤ 140737488351232 →
    Ev (fun k => capture_long.l0 k s (pre ++ post) ((pre ++ post).length : Int) (pre.length : Int)) (s + sm post)
  | [], pre, s, h0, h1, hw, hl => by
    refine Ev.step (f := fun _ => some s) (fun k => ?_) ?_
    · simp only [capture_long.l0]
      rw [if_neg (by simp)]
    · simp only [sm, Int.add_zero]
      exact Ev.now _
  | x :: post, pre, s, h0, h1, hw, hl => by
    have hx := hw.cons
    have hs := smM_nonneg hx.2
    simp only [sm] at h1
    have hlt := mid_lt pre post x
    have hn : pre.length ≤ 9223372036854775806 := by
      simp only [List.length_append, List.length_cons] at hl
      omega
    have ih := long_l0 post (pre ++ [x]) (s + x.f1) (by omega) (by omega) hx.2 (by simpa using hl)
    rw [← mid_snoc] at ih
    have e1 : s + sm (x :: post) = s + x.f1 + sm post := by
      simp only [sm]
      omega
    rw [e1]
    refine Ev.step (fun k => ?_) ih
    simp only [capture_long.l0]
    rw [rd_mid, if_pos hlt, if_pos (by omega), if_pos hlt, w64 (x := s + x.f1) (by omega) (by omega), succ_mid _ _ hn]
theorem long_ev {m : Int} {r : List S48} (h : RunsM m r) (hs : sm r ≤ 1099511627776) (hr : r.length ≤ 140737488351232) : Ev (fun k => capture_long.f k r) (sm r) := by
  have h := long_l0 r [] 0 (by omega) (by omega) h (by simpa using hr)
  rw [Int.zero_add] at h
  exact Ev.congr (fun k => rfl) h
def longC (l : List ByteArray) (r : List S48) : Int := if chkV l r = 0 then sm r else 0
theorem Long_ev {l : List ByteArray} {r : List S48} (hs : StrsOk l) (hl : l.length ≤ 140737488351232) (hr : r.length ≤ 140737488351232) : Ev (fun k => capture_Long.f k l r) (longC l r) := by
  unfold longC
  refine Ev.bind (Check_ev hs hl hr) ?_
  by_cases c : chkV l r = 0
  · have h := chk_0 c
    rw [if_pos c]
    exact Ev.congr (fun k => if_pos c) (Ev.bind (long_ev h.2.2.1 h.2.2.2 hr) (Ev.now _))
  · rw [if_neg c]
    exact Ev.congr (fun k => if_neg c) (Ev.now _)
def atS : List S48 → Int → Int × Bool
  | [], _ => (-1, false)
  | x :: l, t => if t < x.f1 then (x.f0, true) else atS l (t - x.f1)
def atC (l : List ByteArray) (r : List S48) (t : Int) : Int × Bool := if t < 0 then (-1, false) else if chkV l r = 0 then atS r t else (-1, false)
theorem At_l0 {m : Int} : ∀ (post pre : List S48) (t : Int), 0 ≤ t → t ≤ 9223372036854775807 → RunsM m post → (pre ++ post).length ≤ 140737488351232 →
    Ev (fun k => capture_At.l0 k t (pre ++ post) ((pre ++ post).length : Int) (pre.length : Int)) (atS post t)
  | [], pre, t, h0, h1, hw, hl => by
    refine Ev.step (f := fun _ => some ((-1), false)) (fun k => ?_) (Ev.now _)
    simp only [capture_At.l0]
    rw [if_neg (by simp)]
  | x :: post, pre, t, h0, h1, hw, hl => by
    have hx := hw.cons
    have hlt := mid_lt pre post x
    have hn : pre.length ≤ 9223372036854775806 := by
      simp only [List.length_append, List.length_cons] at hl
      omega
    by_cases c : t < x.f1
    · rw [atS, if_pos c]
      refine Ev.step (f := fun _ => some (x.f0, true)) (fun k => ?_) (Ev.now _)
      simp only [capture_At.l0]
      rw [rd_mid, if_pos hlt, if_pos (by omega), if_pos hlt, if_pos c]
    · have ih := At_l0 post (pre ++ [x]) (t - x.f1) (by omega) (by omega) hx.2 (by simpa using hl)
      rw [← mid_snoc] at ih
      rw [atS, if_neg c]
      refine Ev.step (fun k => ?_) ih
      simp only [capture_At.l0]
      rw [rd_mid, if_pos hlt, if_pos (by omega), if_pos hlt, if_neg c, w64 (by omega) (by omega), succ_mid _ _ hn]
theorem At_ev {l : List ByteArray} {r : List S48} {t : Int} (hs : StrsOk l) (hl : l.length ≤ 140737488351232) (hr : r.length ≤ 140737488351232) (ht : t ≤ 9223372036854775807) : Ev (fun k => capture_At.f k l r t) (atC l r t) := by
  have hj : Ev (fun k => capture_At.j0 k t true l r) (-1, false) := Ev.step (f := fun _ => some (-1, false)) (fun k => by simp only [capture_At.j0]; rfl) (Ev.now _)
  unfold atC
  by_cases c : t < 0
  · rw [if_pos c]
    refine Ev.congr (fun k => ?_) hj
    unfold capture_At.f
    rw [if_pos c]
  · rw [if_neg c]
    refine Ev.congr (f := fun k => (capture_Check.f k l r).bind fun t117 => (capture_At.j0 k t (t117 != 0) l r)) (fun k => ?_) (Ev.bind (Check_ev hs hl hr) ?_)
    · unfold capture_At.f
      rw [if_neg c]
    · by_cases v : chkV l r = 0
      · rw [if_pos v, v]
        refine Ev.step (fun k => ?_) (At_l0 r [] t (by omega) (by omega) (chk_0 v).2.2.1 (by simpa using hr))
        simp only [capture_At.j0]
        rw [if_neg (by decide)]
        rfl
      · rw [if_neg v, show (chkV l r != 0) = true from bne_iff_ne.2 v]
        exact hj
theorem lives09_ev : Ev (fun k => signalbenchlaw09_lives.f k) true := Ev.of (k := 60) (fun k => signalbenchlaw09_lives.mono k) (by decide +kernel)
def fewV (l : List ByteArray) (r : List S48) : Bool := decide (l.length ≤ 100 ∧ r.length ≤ 2000)
theorem few09_eq (l : List ByteArray) (r : List S48) : signalbenchlaw09_few.f l r = some (fewV l r) := by
  unfold signalbenchlaw09_few.f fewV
  by_cases c : l.length ≤ 100
  · rw [if_pos (by omega)]
    by_cases c1 : r.length ≤ 2000
    · rw [decide_eq_true (by omega), decide_eq_true ⟨c, c1⟩]
    · rw [decide_eq_false (by omega), decide_eq_false (fun h => c1 h.2)]
  · rw [if_neg (by omega), decide_eq_false (fun h => c h.1)]
/-- A run put behind runs. -/
def putR (o : List S48) (v t : Int) : List S48 :=
  match o.getLast? with
  | some y => if y.f0 = v then o.dropLast ++ [(⟨y.f0, y.f1 + t⟩ : S48)] else o ++ [(⟨v, t⟩ : S48)]
  | none => [(⟨v, t⟩ : S48)]
theorem putR_nil (v t : Int) : putR [] v t = [⟨v, t⟩] := rfl
theorem putR_same (o : List S48) (y : S48) (t : Int) : putR (o ++ [y]) y.f0 t = o ++ [⟨y.f0, y.f1 + t⟩] := by
  simp [putR]
theorem putR_new (o : List S48) (y : S48) {v t : Int} (h : ¬ y.f0 = v) : putR (o ++ [y]) v t = o ++ [y] ++ [⟨v, t⟩] := by
  simp [putR, h]
theorem snoc_cases {α : Type} (o : List α) : o = [] ∨ ∃ q y, o = q ++ [y] := by
  rcases List.eq_nil_or_concat o with h | ⟨q, y, h⟩
  · exact .inl h
  · exact .inr ⟨q, y, by simpa using h⟩
theorem last_at (o : List S48) (x : S48) (h : o.length ≤ 9223372036854775806) : wrap64 (((o ++ [x]).length : Int) - 1) = (o.length : Int) := by
  rw [w64 (by simp only [List.length_append, List.length_cons, List.length_nil]; omega) (by simp only [List.length_append, List.length_cons, List.length_nil]; omega)]
  simp
theorem rd_last (o : List S48) (x : S48) : rd_T48 (o ++ [x]) (o.length : Int) = x := rd_mid o [] x
theorem set_last (o : List S48) (x y : S48) : (o ++ [x]).set ((o.length : Int)).toNat y = o ++ [y] := by
  rw [Int.toNat_natCast]
  simp
theorem join_eq {o : List S48} {v t : Int} (ho : o.length < 8796093022208) (h0 : 0 ≤ t) (hs : ∀ y ∈ o, 0 ≤ y.f1 ∧ y.f1 + t ≤ 9223372036854775807) : capture_join.f o v t = some (putR o v t) := by
  rcases snoc_cases o with rfl | ⟨q, y, rfl⟩
  · unfold capture_join.f
    rw [if_neg (by simp), if_pos (by simp)]
    rfl
  · have hy := hs y (by simp)
    have hq : q.length ≤ 9223372036854775806 := by
      simp only [List.length_append, List.length_cons, List.length_nil] at ho
      omega
    have hlt : (q.length : Int) < ((q ++ [y]).length : Int) := mid_lt q [] y
    unfold capture_join.f
    rw [last_at q y hq, rd_last, if_pos (by omega), if_pos (by omega), if_pos hlt]
    by_cases c : y.f0 = v
    · rw [if_pos c, set_last, w64 (by omega) (by omega), ← c, putR_same]
    · rw [if_neg c, if_pos ho, putR_new q y c]
theorem putR_sm (o : List S48) (v t : Int) : sm (putR o v t) = sm o + t := by
  rcases snoc_cases o with rfl | ⟨q, y, rfl⟩
  · simp [putR_nil, sm]
  · by_cases c : y.f0 = v
    · rw [← c, putR_same]
      simp only [sm_append, sm]
      omega
    · rw [putR_new q y c]
      simp only [sm_append, sm]
      omega
theorem putR_len (o : List S48) (v t : Int) : (putR o v t).length ≤ o.length + 1 := by
  rcases snoc_cases o with rfl | ⟨q, y, rfl⟩
  · simp [putR_nil]
  · by_cases c : y.f0 = v
    · rw [← c, putR_same]
      simp
    · rw [putR_new q y c]
      simp
theorem putR_ok {m : Int} {o : List S48} {v t : Int} (h : RunsM m o) (hv : 0 ≤ v ∧ v ≤ m) (ht : 1 ≤ t) : RunsM m (putR o v t) := by
  rcases snoc_cases o with rfl | ⟨q, y, rfl⟩
  · intro x hx
    rw [putR_nil, List.mem_singleton] at hx
    subst hx
    exact ⟨hv.1, hv.2, ht⟩
  · have hy := h y (by simp)
    by_cases c : y.f0 = v
    · rw [← c, putR_same]
      intro x hx
      rcases List.mem_append.1 hx with hx | hx
      · exact h x (by simp [hx])
      · rw [List.mem_singleton] at hx
        subst hx
        exact ⟨hy.1, hy.2.1, by show 1 ≤ y.f1 + t; omega⟩
    · rw [putR_new q y c]
      intro x hx
      rcases List.mem_append.1 hx with hx | hx
      · exact h x hx
      · rw [List.mem_singleton] at hx
        subst hx
        exact ⟨hv.1, hv.2, ht⟩
/-- Each run has at most the sum of all. -/
theorem le_sm {m : Int} : ∀ {l : List S48}, RunsM m l → ∀ y ∈ l, 0 ≤ y.f1 ∧ y.f1 ≤ sm l
  | [], h, y, hy => by simp at hy
  | x :: l, h, y, hy => by
    have hx := h.cons
    have h0 := smM_nonneg hx.2
    simp only [sm]
    rcases List.mem_cons.1 hy with rfl | hy
    · omega
    · have := le_sm hx.2 y hy
      omega
theorem sm_nil : sm ([] : List S48) = 0 := rfl
theorem sm_cons (x : S48) (l : List S48) : sm (x :: l) = x.f1 + sm l := rfl
theorem atS_cons (x : S48) (l : List S48) (t : Int) : atS (x :: l) t = if t < x.f1 then (x.f0, true) else atS l (t - x.f1) := rfl
theorem atS_append {m : Int} : ∀ {a : List S48} (b : List S48) (t : Int), RunsM m a → 0 ≤ t → atS (a ++ b) t = if t < sm a then atS a t else atS b (t - sm a)
  | [], b, t, h, ht => by
    rw [sm_nil, List.nil_append, Int.sub_zero, if_neg (by omega)]
  | x :: a, b, t, h, ht => by
    have hx := h.cons
    have h2 := smM_nonneg hx.2
    rw [List.cons_append, atS_cons, atS_cons, sm_cons]
    by_cases c : t < x.f1
    · rw [if_pos c, if_pos (by omega), if_pos c]
    · rw [if_neg c, if_neg c, atS_append b (t - x.f1) hx.2 (by omega)]
      by_cases c1 : t - x.f1 < sm a
      · rw [if_pos c1, if_pos (by omega)]
      · rw [if_neg c1, if_neg (by omega), show t - x.f1 - sm a = t - (x.f1 + sm a) by omega]
theorem atS_putR {m : Int} {o : List S48} {v n t : Int} (h : RunsM m o) (ht : 0 ≤ t) (hn : 0 ≤ n) : atS (putR o v n) t = if t < sm o then atS o t else if t - sm o < n then (v, true) else (-1, false) := by
  have e : ∀ s, atS [(⟨v, n⟩ : S48)] s = if s < n then (v, true) else (-1, false) := fun s => rfl
  rcases snoc_cases o with rfl | ⟨q, y, rfl⟩
  · rw [putR_nil, e, sm_nil, Int.sub_zero, if_neg (show ¬ t < 0 by omega)]
  · have hq : RunsM m q := fun x hx => h x (by simp [hx])
    have hy := h y (by simp)
    have hs := smM_nonneg hq
    by_cases c : y.f0 = v
    · rw [← c, putR_same, atS_append _ _ hq ht, atS_append _ _ hq ht]
      simp only [sm_append, sm, Int.add_zero]
      by_cases c1 : t < sm q
      · rw [if_pos c1, if_pos (by omega), if_pos c1]
      · rw [if_neg c1]
        by_cases c2 : t < sm q + y.f1
        · rw [if_pos c2, if_neg c1]
          simp only [atS]
          rw [if_pos (by omega), if_pos (by omega)]
        · rw [if_neg c2]
          simp only [atS]
          by_cases c3 : t - sm q < y.f1 + n
          · rw [if_pos c3, if_pos (by omega)]
          · rw [if_neg c3, if_neg (by omega)]
    · rw [putR_new q y c, atS_append _ _ h ht]
      by_cases c1 : t < sm (q ++ [y])
      · rw [if_pos c1, if_pos c1]
      · rw [if_neg c1, if_neg c1, e]
/-- The part from the tick from on, before to: what is put behind o, at the tick at. -/
def slC (from_ to_ : Int) : Int → List S48 → List S48 → List S48
  | _, o, [] => o
  | at_, o, x :: l => slC from_ to_ (at_ + x.f1) (if mx at_ from_ < mn (at_ + x.f1) to_ then putR o x.f0 (mn (at_ + x.f1) to_ - mx at_ from_) else o) l
theorem mx_le (a b : Int) : a ≤ mx a b ∧ b ≤ mx a b ∧ (mx a b = a ∨ mx a b = b) := by
  unfold mx
  by_cases c : a < b
  · rw [if_pos c]
    omega
  · rw [if_neg c]
    omega
theorem mn_le (a b : Int) : mn a b ≤ a ∧ mn a b ≤ b ∧ (mn a b = a ∨ mn a b = b) := by
  unfold mn
  by_cases c : b < a
  · rw [if_pos c]
    omega
  · rw [if_neg c]
    omega
/-- How many ticks of the part lie before a tick. -/
def don (from_ to_ at_ : Int) : Int := mx 0 (mn at_ to_ - from_)
theorem don_step {from_ to_ at_ n : Int} (h0 : 0 ≤ from_) (h1 : from_ < to_) (h2 : 0 ≤ at_) (h3 : 1 ≤ n) :
    don from_ to_ (at_ + n) = don from_ to_ at_ + (if mx at_ from_ < mn (at_ + n) to_ then mn (at_ + n) to_ - mx at_ from_ else 0) := by
  have a1 := mx_le at_ from_
  have a2 := mn_le (at_ + n) to_
  have a3 := mn_le at_ to_
  have a4 := mx_le 0 (mn at_ to_ - from_)
  have a5 := mx_le 0 (mn (at_ + n) to_ - from_)
  unfold don
  by_cases c : mx at_ from_ < mn (at_ + n) to_
  · rw [if_pos c]
    omega
  · rw [if_neg c]
    omega
theorem slC_ok {m from_ to_ : Int} (h0 : 0 ≤ from_) (h1 : from_ < to_) : ∀ (l o : List S48) (at_ : Int), 0 ≤ at_ → RunsM m o → RunsM m l → sm o = don from_ to_ at_ →
    RunsM m (slC from_ to_ at_ o l) ∧ sm (slC from_ to_ at_ o l) = don from_ to_ (at_ + sm l) ∧ (slC from_ to_ at_ o l).length ≤ o.length + l.length
  | [], o, at_, ha, ho, hl, hs => by
    simp only [slC, sm, Int.add_zero, List.length_nil]
    exact ⟨ho, hs, Nat.le_refl _⟩
  | x :: l, o, at_, ha, ho, hl, hs => by
    have hx := hl.cons
    have hd := don_step h0 h1 ha hx.1.2.2
    simp only [slC, sm, List.length_cons]
    by_cases c : mx at_ from_ < mn (at_ + x.f1) to_
    · rw [if_pos c] at hd ⊢
      have ih := slC_ok h0 h1 l (putR o x.f0 (mn (at_ + x.f1) to_ - mx at_ from_)) (at_ + x.f1) (by omega) (putR_ok ho ⟨hx.1.1, hx.1.2.1⟩ (by omega)) hx.2 (by rw [putR_sm]; omega)
      have hp := putR_len o x.f0 (mn (at_ + x.f1) to_ - mx at_ from_)
      exact ⟨ih.1, by rw [ih.2.1, Int.add_assoc], by have := ih.2.2; omega⟩
    · rw [if_neg c] at hd ⊢
      have ih := slC_ok h0 h1 l o (at_ + x.f1) (by omega) ho hx.2 (by omega)
      exact ⟨ih.1, by rw [ih.2.1, Int.add_assoc], by have := ih.2.2; omega⟩
theorem slC_at {m from_ to_ : Int} (h0 : 0 ≤ from_) (h1 : from_ < to_) : ∀ (l o : List S48) (at_ s : Int), 0 ≤ at_ → RunsM m o → RunsM m l → sm o = don from_ to_ at_ → to_ ≤ at_ + sm l → 0 ≤ s → s < to_ - from_ →
    atS (slC from_ to_ at_ o l) s = if s < sm o then atS o s else atS l (from_ + s - at_)
  | [], o, at_, s, ha, ho, hl, hs, hc, hs0, hs1 => by
    simp only [sm] at hc
    have a3 := mn_le at_ to_
    have a4 := mx_le 0 (mn at_ to_ - from_)
    unfold don at hs
    simp only [slC]
    rw [if_pos (by omega)]
  | x :: l, o, at_, s, ha, ho, hl, hs, hc, hs0, hs1 => by
    have hx := hl.cons
    have hd := don_step h0 h1 ha hx.1.2.2
    simp only [sm] at hc
    have a1 := mx_le at_ from_
    have a2 := mn_le (at_ + x.f1) to_
    have a3 := mn_le at_ to_
    have a4 := mx_le 0 (mn at_ to_ - from_)
    have a5 := mx_le 0 (mn (at_ + x.f1) to_ - from_)
    have d0 : don from_ to_ at_ = mx 0 (mn at_ to_ - from_) := rfl
    have d1 : don from_ to_ (at_ + x.f1) = mx 0 (mn (at_ + x.f1) to_ - from_) := rfl
    have e1 : from_ + s - (at_ + x.f1) = from_ + s - at_ - x.f1 := by omega
    simp only [slC, atS]
    by_cases c : mx at_ from_ < mn (at_ + x.f1) to_
    · rw [if_pos c] at hd ⊢
      have ih := slC_at h0 h1 l (putR o x.f0 (mn (at_ + x.f1) to_ - mx at_ from_)) (at_ + x.f1) s (by omega) (putR_ok ho ⟨hx.1.1, hx.1.2.1⟩ (by omega)) hx.2 (by rw [putR_sm]; omega) (by omega) hs0 hs1
      rw [ih, putR_sm, atS_putR ho hs0 (by omega)]
      by_cases c1 : s < sm o
      · rw [if_pos (by omega), if_pos c1, if_pos c1]
      · by_cases c2 : s < sm o + (mn (at_ + x.f1) to_ - mx at_ from_)
        · rw [if_pos c2, if_neg c1, if_neg c1, if_pos (by omega), if_pos (by omega)]
        · rw [if_neg c2, if_neg c1, if_neg (by omega), e1]
    · rw [if_neg c] at hd ⊢
      have ih := slC_at h0 h1 l o (at_ + x.f1) s (by omega) ho hx.2 (by omega) (by omega) hs0 hs1
      rw [ih]
      by_cases c1 : s < sm o
      · rw [if_pos c1, if_pos c1]
      · rw [if_neg c1, if_neg c1, if_neg (by omega), e1]
theorem Slice_l0 {m from_ to_ : Int} (h0 : 0 ≤ from_) (h1 : from_ < to_) (h2 : to_ ≤ 1099511627776) (n : List ByteArray) : ∀ (post pre o : List S48) (at_ : Int), 0 ≤ at_ → at_ + sm post ≤ 1099511627776 → RunsM m o → RunsM m post → sm o = don from_ to_ at_ → (pre ++ post).length ≤ 262144 → o.length + post.length ≤ 262144 →
    Ev (fun k => capture_Slice.l0 k from_ to_ at_ (pre ++ post) ((pre ++ post).length : Int) (pre.length : Int) n o) (n, slC from_ to_ at_ o post, 0)
  | [], pre, o, at_, ha, hb, ho, hp, hs, hl, hol => by
    refine Ev.step (f := fun _ => some (n, o, 0)) (fun k => ?_) (Ev.now _)
    simp only [capture_Slice.l0]
    rw [if_neg (by simp)]
  | x :: post, pre, o, at_, ha, hb, ho, hp, hs, hl, hol => by
    have hx := hp.cons
    have h3 := smM_nonneg hx.2
    simp only [sm] at hb
    simp only [List.length_cons] at hol
    have hlt := mid_lt pre post x
    have hn : pre.length ≤ 9223372036854775806 := by
      simp only [List.length_append, List.length_cons] at hl
      omega
    have hd := don_step h0 h1 ha hx.1.2.2
    have a1 := mx_le at_ from_
    have a2 := mn_le (at_ + x.f1) to_
    have a3 := mn_le at_ to_
    have a4 := mx_le 0 (mn at_ to_ - from_)
    have d0 : don from_ to_ at_ = mx 0 (mn at_ to_ - from_) := rfl
    simp only [slC]
    by_cases c : mx at_ from_ < mn (at_ + x.f1) to_
    · rw [if_pos c] at hd ⊢
      have hj : capture_join.f o x.f0 (mn (at_ + x.f1) to_ - mx at_ from_) = some (putR o x.f0 (mn (at_ + x.f1) to_ - mx at_ from_)) := join_eq (by omega) (by omega) (fun y hy => by have := le_sm ho y hy; omega)
      have ih := Slice_l0 h0 h1 h2 n post (pre ++ [x]) (putR o x.f0 (mn (at_ + x.f1) to_ - mx at_ from_)) (at_ + x.f1) (by omega) (by omega) (putR_ok ho ⟨hx.1.1, hx.1.2.1⟩ (by omega)) hx.2 (by rw [putR_sm]; omega) (by simpa using hl) (by have := putR_len o x.f0 (mn (at_ + x.f1) to_ - mx at_ from_); omega)
      rw [← mid_snoc] at ih
      refine Ev.step (fun k => ?_) ih
      simp only [capture_Slice.l0]
      rw [rd_mid, if_pos hlt, if_pos (by omega), if_pos hlt, w64 (x := at_ + x.f1) (by omega) (by omega), if_pos c, w64 (x := mn (at_ + x.f1) to_ - mx at_ from_) (by omega) (by omega), hj, Option.bind_some, succ_mid _ _ hn]
    · rw [if_neg c] at hd ⊢
      have ih := Slice_l0 h0 h1 h2 n post (pre ++ [x]) o (at_ + x.f1) (by omega) (by omega) ho hx.2 (by omega) (by simpa using hl) (by omega)
      rw [← mid_snoc] at ih
      refine Ev.step (fun k => ?_) ih
      simp only [capture_Slice.l0]
      rw [rd_mid, if_pos hlt, if_pos (by omega), if_pos hlt, w64 (x := at_ + x.f1) (by omega) (by omega), if_neg c, succ_mid _ _ hn]
theorem don_0 {from_ to_ : Int} (h0 : 0 ≤ from_) (h1 : from_ < to_) : don from_ to_ 0 = 0 := by
  have a3 := mn_le 0 to_
  have a4 := mx_le 0 (mn 0 to_ - from_)
  unfold don
  omega
theorem don_all {from_ to_ n : Int} (h0 : 0 ≤ from_) (h1 : from_ < to_) (h : to_ ≤ n) : don from_ to_ n = to_ - from_ := by
  have a3 := mn_le n to_
  have a4 := mx_le 0 (mn n to_ - from_)
  unfold don
  omega
/-- The answer of Slice. -/
def slV (l : List ByteArray) (r : List S48) (from_ to_ : Int) : List ByteArray × List S48 × Int :=
  if chkV l r = 0 then (if from_ < 0 ∨ from_ ≥ to_ ∨ to_ > sm r then ([], [], 2) else (l, slC from_ to_ 0 [] r, 0)) else ([], [], chkV l r)
theorem Slice_ev {l : List ByteArray} {r : List S48} {from_ to_ : Int} (hs : StrsOk l) (hl : l.length ≤ 140737488351232) (hr : r.length ≤ 140737488351232) : Ev (fun k => capture_Slice.f k l r from_ to_) (slV l r from_ to_) := by
  have hj : Ev (fun k => capture_Slice.j0 k from_ to_ true l r) ([], [], 2) := Ev.step (f := fun _ => some ([], [], 2)) (fun k => by simp only [capture_Slice.j0]; rfl) (Ev.now _)
  unfold slV
  refine Ev.bind (Check_ev hs hl hr) ?_
  by_cases c : chkV l r = 0
  · have h := chk_0 c
    have h16 := nmsV_0 h.2.1
    rw [if_pos c]
    refine Ev.congr (fun k => if_pos c) ?_
    by_cases c1 : from_ < 0
    · rw [if_pos (.inl c1)]
      exact Ev.congr (fun k => if_pos c1) hj
    · refine Ev.congr (fun k => if_neg c1) ?_
      by_cases c2 : from_ ≥ to_
      · rw [if_pos (.inr (.inl c2))]
        exact Ev.congr (fun k => if_pos c2) hj
      · refine Ev.congr (fun k => if_neg c2) (Ev.bind (long_ev h.2.2.1 h.2.2.2 hr) ?_)
        by_cases c3 : to_ > sm r
        · rw [if_pos (.inr (.inr c3)), decide_eq_true c3]
          exact hj
        · rw [if_neg (by omega), decide_eq_false c3]
          have hc : slices_Clone_string.f l = some l := by
            unfold slices_Clone_string.f
            rw [if_pos (by omega)]
          refine Ev.step (fun k => ?_) (Slice_l0 (m := mk l) (by omega) (by omega) (by omega) l r [] [] 0 (Int.le_refl 0) (by omega) (fun x hx => by simp at hx) h.2.2.1 (by rw [don_0 (by omega) (by omega)]; rfl) (by simpa using h.1) (by simpa using h.1))
          simp only [capture_Slice.j0]
          rw [if_neg (by decide), hc]
          rfl
  · rw [if_neg c]
    exact Ev.congr (fun k => if_neg c) (Ev.now _)
theorem chkV_of {l : List ByteArray} {r : List S48} (h : r.length ≤ 262144) (h1 : nmsV l = 0) (h2 : RunsM (mk l) r) (h3 : sm r ≤ 1099511627776) : chkV l r = 0 := by
  unfold chkV
  rw [if_neg (by omega), if_pos h1, if_pos ((rOk_iff (by omega)).2 ⟨h2, h3⟩)]
theorem atS_in {m : Int} : ∀ {l : List S48} {s : Int}, RunsM m l → 0 ≤ s → s < sm l → (atS l s).2 = true
  | [], s, h0, h1, h2 => by
    simp only [sm] at h2
    omega
  | x :: l, s, h0, h1, h2 => by
    simp only [sm] at h2
    simp only [atS]
    by_cases c : s < x.f1
    · rw [if_pos c]
    · rw [if_neg c]
      exact atS_in h0.cons.2 (by omega) (by omega)
theorem CaptureParts_pure {l : List ByteArray} {r : List S48} {a b t : Int} (hs : StrsOk l) (ha : (Lit.int .i64 a).wf = true) (hb : (Lit.int .i64 b).wf = true) (ht : (Lit.int .i64 t).wf = true) : ∃ k, signalbenchlaw09_CaptureParts.f k l r a b t = some true := by
  have ha' := wf64 ha
  have hb' := wf64 hb
  have ht' := wf64 ht
  have hj : Ev (fun k => signalbenchlaw09_CaptureParts.j0 k a b t true l r) true := Ev.step (f := fun _ => some true) (fun k => by simp only [signalbenchlaw09_CaptureParts.j0]; rfl) (Ev.now _)
  refine Ev.rounds (Ev.bind lives09_ev (Ev.congr (fun k => if_pos rfl) ?_))
  rw [few09_eq]
  refine Ev.congr (fun k => Option.bind_some _ _) ?_
  by_cases c : fewV l r = true
  · have hf : l.length ≤ 100 ∧ r.length ≤ 2000 := of_decide_eq_true c
    have hl : l.length ≤ 140737488351232 := by omega
    have hr : r.length ≤ 140737488351232 := by omega
    refine Ev.congr (fun k => if_pos c) (Ev.bind (Check_ev hs hl hr) ?_)
    by_cases c1 : chkV l r = 0
    · have h := chk_0 c1
      have eL : longC l r = sm r := if_pos c1
      refine Ev.congr (fun k => if_pos c1) ?_
      by_cases c2 : a < 0
      · exact Ev.congr (fun k => if_pos c2) hj
      · refine Ev.congr (fun k => if_neg c2) ?_
        by_cases c3 : a ≥ b
        · exact Ev.congr (fun k => if_pos c3) hj
        · refine Ev.congr (fun k => if_neg c3) (Ev.bind (Long_ev hs hl hr) ?_)
          rw [eL]
          by_cases c4 : b > sm r
          · exact Ev.congr (fun k => if_pos c4) hj
          · refine Ev.congr (fun k => if_neg c4) ?_
            by_cases c5 : t < 0
            · exact Ev.congr (fun k => if_pos c5) hj
            · refine Ev.congr (fun k => if_neg c5) ?_
              rw [w64 (x := b - a) (by omega) (by omega)]
              by_cases c6 : t ≥ b - a
              · rw [decide_eq_true c6]
                exact hj
              · rw [decide_eq_false c6]
                have eS : slV l r a b = (l, slC a b 0 [] r, 0) := by
                  unfold slV
                  rw [if_pos c1, if_neg (by omega)]
                have hnil : RunsM (mk l) ([] : List S48) := fun x hx => by simp at hx
                have hd0 : sm ([] : List S48) = don a b 0 := by
                  rw [don_0 (by omega) (by omega)]
                  rfl
                have hk := slC_ok (m := mk l) (from_ := a) (to_ := b) (by omega) (by omega) r [] 0 (Int.le_refl 0) hnil h.2.2.1 hd0
                have hsm : sm (slC a b 0 [] r) = b - a := by rw [hk.2.1, Int.zero_add, don_all (by omega) (by omega) (by omega)]
                have hlen : (slC a b 0 [] r).length ≤ 2000 := by
                  have := hk.2.2
                  simp only [List.length_nil] at this
                  omega
                have hat := slC_at (m := mk l) (from_ := a) (to_ := b) (by omega) (by omega) r [] 0 t (Int.le_refl 0) hnil h.2.2.1 hd0 (by omega) (by omega) (by omega)
                have e0 : sm ([] : List S48) = 0 := rfl
                rw [e0, if_neg (by omega), show a + t - 0 = a + t by omega] at hat
                have hck : chkV l (slC a b 0 [] r) = 0 := chkV_of (by omega) h.2.1 hk.1 (by omega)
                have eA1 : atC l (slC a b 0 [] r) t = atS r (a + t) := by
                  unfold atC
                  rw [if_neg c5, if_pos hck, hat]
                have eA2 : atC l r (a + t) = atS r (a + t) := by
                  unfold atC
                  rw [if_neg (by omega), if_pos c1]
                have htr : (atS r (a + t)).2 = true := atS_in h.2.2.1 (by omega) (by omega)
                refine Ev.step (f := fun k => (capture_Slice.f k l r a b).bind fun bt379 => ((capture_At.f k bt379.1 bt379.2.1 t).bind fun bt387 => ((capture_At.f k l r (a + t)).bind fun bt389 => (if bt379.2.2 = 0 then (if bt387.2 = true then (if bt389.2 = true then (if bt387.1 = bt389.1 then ((capture_Long.f k bt379.1 bt379.2.1).bind fun t391 => (some (t391 == (b - a)))) else (some false)) else (some false)) else (some false)) else (some false))))) (fun k => ?_) (Ev.bind (Slice_ev hs hl hr) ?_)
                · simp only [signalbenchlaw09_CaptureParts.j0]
                  rw [if_neg (by decide), w64 (x := a + t) (by omega) (by omega), w64 (x := b - a) (by omega) (by omega)]
                · rw [eS]
                  have hlen2 : (slC a b 0 [] r).length ≤ 140737488351232 := by omega
                  refine Ev.bind (At_ev hs hl hlen2 ht'.2) (Ev.bind (At_ev hs hl hr (by omega)) ?_)
                  rw [eA1, eA2]
                  refine Ev.congr (fun k => (if_pos rfl).trans ((if_pos htr).trans ((if_pos htr).trans (if_pos rfl)))) (Ev.bind (Long_ev hs hl hlen2) ?_)
                  have eL2 : longC l (slC a b 0 [] r) = b - a := by
                    unfold longC
                    rw [if_pos hck, hsm]
                  rw [eL2, beq_self_eq_true]
                  exact Ev.now _
    · exact Ev.congr (fun k => if_neg c1) hj
  · exact Ev.congr (fun k => if_neg c) hj
end Go.Proofs.Yteafkdadpdofjaa
