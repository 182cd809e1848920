/- The law CaptureSame as a plain statement on numbers and lists: with enough rounds it answers true; conditions: each number is one of its kind, no list or string is longer than its memory allows. -/
import Derived.Laws.BitsAllLaws
import Derived.WalkKit
import Derived.Test.YteafkdadpdofjaaWMore
import Derived.Laws.Strings
import Derived.Test.YteafkdadpdofjaaQx0
import Derived.Test.YteafkdadpdofjaaQx3
import Derived.Test.YteafkdadpdofjaaQx6
import Derived.Test.YteafkdadpdofjaaQx7
import Derived.Test.YteafkdadpdofjaaQx9
import Derived.Test.YteafkdadpdofjaaQx10
import Derived.Test.YteafkdadpdofjaaQx12
import Derived.Test.YteafkdadpdofjaaQx13
import Derived.Test.YteafkdadpdofjaaQx14
import Derived.Test.YteafkdadpdofjaaQx16
import Derived.Test.YteafkdadpdofjaaQx20
import Derived.Test.YteafkdadpdofjaaQx26
import Derived.Test.YteafkdadpdofjaaQx28
import Derived.Test.YteafkdadpdofjaaQx29
import Derived.Test.YteafkdadpdofjaaQx31
import Derived.Test.YteafkdadpdofjaaQx32
import Derived.Test.YteafkdadpdofjaaQx33
import Derived.Test.YteafkdadpdofjaaQx41
import Derived.Test.YteafkdadpdofjaaQx42
namespace Go.Proofs.Yteafkdadpdofjaa
open Go Go.RowKit Go.Proofs.YteafkdadpdofjaaW.PrintWords Go.Proofs.YteafkdadpdofjaaW.PrintLast Go.Proofs.Yteafkdadpdofjaa.Q
set_option linter.unusedVariables false
theorem w64 {x : Int} (h0 : -9223372036854775808 ≤ x) (h1 : x ≤ 9223372036854775807) : wrap64 x = x := by
  unfold wrap64
  omega
theorem succ_mid {α : Type} (pre : List α) (x : α) (h : pre.length ≤ 9223372036854775806) : wrap64 ((pre.length : Int) + 1) = ((pre ++ [x]).length : Int) := by
  rw [w64 (by omega) (by omega)]
  simp
theorem mid_snoc {α : Type} (pre post : List α) (x : α) : pre ++ x :: post = (pre ++ [x]) ++ post := by simp
def wd (c : Int) : Bool := if 97 ≤ c ∧ c ≤ 122 then true else if 48 ≤ c ∧ c ≤ 57 then true else if c = 95 then true else false
def wAll (s : ByteArray) : Nat → Nat → Bool
  | 0, _ => true
  | m + 1, i => if wd (bt s (i : Int)) = true then wAll s m (i + 1) else false
def nmOk (s : ByteArray) : Bool := if s.size = 0 then false else if 16 < s.size then false else if 97 ≤ bt s 0 ∧ bt s 0 ≤ 122 then wAll s s.size 0 else false
theorem w32 {x : Int} (h0 : 0 ≤ x) (h1 : x ≤ 255) : wrap32 x = x := by
  unfold wrap32
  omega
theorem nil_iff (s : ByteArray) : s.toList = ([] : List UInt8) ↔ s.size = 0 := by
  rw [ByteArray.toList_eq, ← List.length_eq_zero_iff, data_length]
theorem wd_1 {c : Int} (h : 97 ≤ c ∧ c ≤ 122) : wd c = true := by
  unfold wd
  rw [if_pos h]
theorem wd_2 {c : Int} (h : 48 ≤ c ∧ c ≤ 57) : wd c = true := by
  unfold wd
  rw [if_neg (by omega), if_pos h]
theorem wd_3 {c : Int} (h : c = 95) : wd c = true := by
  unfold wd
  rw [if_neg (by omega), if_neg (by omega), if_pos h]
theorem wd_0 {c : Int} (h : ¬ (97 ≤ c ∧ c ≤ 122)) (h1 : ¬ (48 ≤ c ∧ c ≤ 57)) (h2 : ¬ c = 95) : wd c = false := by
  unfold wd
  rw [if_neg h, if_neg h1, if_neg h2]
theorem lex_letter_eq (c : Int) : lex_letter.f c = some (decide (97 ≤ c ∧ c ≤ 122)) := by
  unfold lex_letter.f
  by_cases h : 97 ≤ c <;> simp [h]
theorem lex_word_eq (c : Int) : lex_word.f c = some (wd c) := by
  unfold lex_word.f lex_digit.f wd
  rw [lex_letter_eq]
  by_cases h : 97 ≤ c ∧ c ≤ 122
  · simp [h]
  · by_cases h1 : 48 ≤ c
    · by_cases h2 : c ≤ 57
      · simp [h, h1, h2]
      · by_cases h3 : c = 95 <;> simp [h, h1, h2, h3]
    · by_cases h3 : c = 95 <;> simp [h, h1, h3]
theorem lex_Name_l0 (s : ByteArray) (hs : s.size ≤ 140737488351232) : ∀ (m i : Nat), i + m = s.size → Ev (fun k => lex_Name.l0 k s (s.size : Int) (i : Int)) (wAll s m i)
  | 0, i, h => by
    refine Ev.step (f := fun _ => some true) (fun k => ?_) (Ev.now _)
    simp only [lex_Name.l0]
    rw [if_neg (by omega)]
  | m + 1, i, h => by
    have hb := bt_range s (i : Int)
    have hst : ∀ k, lex_Name.l0 (k + 1) s (s.size : Int) (i : Int) = if wd (bt s (i : Int)) = true then lex_Name.l0 k s (s.size : Int) ((i + 1 : Nat) : Int) else some false := by
      intro k
      simp only [lex_Name.l0]
      rw [if_pos (by omega), if_pos (by omega), if_pos (by omega), lex_word_eq, w32 hb.1 hb.2, Option.bind_some, w64 (by omega) (by omega)]
      rfl
    unfold wAll
    by_cases c : wd (bt s (i : Int)) = true
    · rw [if_pos c]
      exact Ev.step (fun k => (hst k).trans (if_pos c)) (lex_Name_l0 s hs m (i + 1) (by omega))
    · rw [if_neg c]
      exact Ev.step (fun k => (hst k).trans (if_neg c)) (Ev.now _)
theorem lex_Name_ev (s : ByteArray) (hs : s.size ≤ 140737488351232) : Ev (fun k => lex_Name.f k s) (nmOk s) := by
  have hb := bt_range s 0
  have hj : Ev (fun k => lex_Name.j0 k s true) false := Ev.step (f := fun _ => some false) (fun k => by simp only [lex_Name.j0]; rfl) (Ev.now _)
  unfold nmOk
  by_cases h0 : s.size = 0
  · rw [if_pos h0]
    refine Ev.congr (fun k => ?_) hj
    unfold lex_Name.f
    rw [if_pos ((nil_iff s).2 h0)]
  · rw [if_neg h0]
    have hn : ¬ s.toList = [] := fun h => h0 ((nil_iff s).1 h)
    by_cases h1 : 16 < s.size
    · rw [if_pos h1]
      refine Ev.congr (fun k => ?_) hj
      unfold lex_Name.f
      rw [if_neg hn, if_pos (by omega)]
    · rw [if_neg h1]
      have e : ∀ k, lex_Name.f k s = lex_Name.j0 k s (!(decide (97 ≤ bt s 0 ∧ bt s 0 ≤ 122))) := by
        intro k
        unfold lex_Name.f
        rw [if_neg hn, if_neg (by omega), if_pos (by omega), lex_letter_eq, w32 hb.1 hb.2]
        rfl
      refine Ev.congr e ?_
      by_cases h2 : 97 ≤ bt s 0 ∧ bt s 0 ≤ 122
      · rw [if_pos h2, decide_eq_true h2]
        refine Ev.step (fun k => ?_) (lex_Name_l0 s hs s.size 0 (by omega))
        simp only [lex_Name.j0]
        rw [if_neg (by decide)]
        rfl
      · rw [if_neg h2, decide_eq_false h2]
        exact hj
theorem ref_name_step (s : ByteArray) (hs : s.size ≤ 140737488351232) (i : Nat) (h : i < s.size) (k : Nat) :
    signalbenchref09_name.l0 (k + 1) s (i : Int) = if wd (bt s (i : Int)) = true then signalbenchref09_name.l0 k s ((i + 1 : Nat) : Int) else some false := by
  have e : wrap64 ((i : Int) + 1) = ((i + 1 : Nat) : Int) := by
    rw [w64 (by omega) (by omega)]
    rfl
  simp only [signalbenchref09_name.l0]
  rw [if_pos (by omega), if_pos (by omega), e]
  generalize bt s (i : Int) = c
  by_cases h1 : c ≥ 97
  · by_cases h2 : c ≤ 122
    · rw [if_pos h1, if_pos (by omega), if_pos h2, wd_1 ⟨h1, h2⟩, if_pos rfl]
    · rw [if_pos h1, if_pos (by omega), if_neg h2, if_neg (by omega), if_neg (by omega), wd_0 (by omega) (by omega) (by omega), if_neg (by decide)]
  · rw [if_neg h1]
    by_cases h3 : c ≥ 48
    · rw [if_pos h3]
      by_cases h4 : c ≤ 57
      · rw [if_pos h4, wd_2 ⟨h3, h4⟩, if_pos rfl]
      · rw [if_neg h4]
        by_cases h5 : c = 95
        · rw [if_pos h5, wd_3 h5, if_pos rfl]
        · rw [if_neg h5, wd_0 (by omega) (by omega) h5, if_neg (by decide)]
    · rw [if_neg h3]
      by_cases h5 : c = 95
      · rw [if_pos h5, wd_3 h5, if_pos rfl]
      · rw [if_neg h5, wd_0 (by omega) (by omega) h5, if_neg (by decide)]
theorem ref_name_l0 (s : ByteArray) (hs : s.size ≤ 140737488351232) : ∀ (m i : Nat), i + m = s.size → Ev (fun k => signalbenchref09_name.l0 k s (i : Int)) (wAll s m i)
  | 0, i, h => by
    refine Ev.step (f := fun _ => some true) (fun k => ?_) (Ev.now _)
    simp only [signalbenchref09_name.l0]
    rw [if_neg (by omega)]
  | m + 1, i, h => by
    have hst := ref_name_step s hs i (by omega)
    unfold wAll
    by_cases c : wd (bt s (i : Int)) = true
    · rw [if_pos c]
      exact Ev.step (fun k => (hst k).trans (if_pos c)) (ref_name_l0 s hs m (i + 1) (by omega))
    · rw [if_neg c]
      exact Ev.step (fun k => (hst k).trans (if_neg c)) (Ev.now _)
theorem ref_name_ev (s : ByteArray) (hs : s.size ≤ 140737488351232) : Ev (fun k => signalbenchref09_name.f k s) (nmOk s) := by
  have hj : Ev (fun k => signalbenchref09_name.j0 k s true) false := Ev.step (f := fun _ => some false) (fun k => by simp only [signalbenchref09_name.j0]; rfl) (Ev.now _)
  unfold nmOk
  by_cases h0 : s.size = 0
  · rw [if_pos h0]
    refine Ev.congr (fun k => ?_) hj
    unfold signalbenchref09_name.f
    rw [if_pos ((nil_iff s).2 h0)]
  · rw [if_neg h0]
    have hn : ¬ s.toList = [] := fun h => h0 ((nil_iff s).1 h)
    by_cases h1 : 16 < s.size
    · rw [if_pos h1]
      refine Ev.congr (fun k => ?_) hj
      unfold signalbenchref09_name.f
      rw [if_neg hn, if_pos (by omega)]
    · rw [if_neg h1]
      by_cases h3 : bt s 0 < 97
      · rw [if_neg (by omega)]
        refine Ev.congr (fun k => ?_) hj
        unfold signalbenchref09_name.f
        rw [if_neg hn, if_neg (by omega), if_pos (by omega), if_pos h3]
      · have e : ∀ k, signalbenchref09_name.f k s = signalbenchref09_name.j0 k s (decide (bt s 0 > 122)) := by
          intro k
          unfold signalbenchref09_name.f
          rw [if_neg hn, if_neg (by omega), if_pos (by omega), if_neg h3]
        refine Ev.congr e ?_
        by_cases h2 : bt s 0 > 122
        · rw [if_neg (by omega), decide_eq_true h2]
          exact hj
        · rw [if_pos (by omega), decide_eq_false h2]
          refine Ev.step (fun k => ?_) (ref_name_l0 s hs s.size 0 (by omega))
          simp only [signalbenchref09_name.j0]
          rw [if_neg (by decide)]
          rfl
def StrsOk (l : List ByteArray) : Prop := ∀ s ∈ l, s.size ≤ 140737488351232
def nmA : List ByteArray → Bool
  | [] => true
  | s :: l => if nmOk s = true then nmA l else false
theorem rds_mid (pre post : List ByteArray) (x : ByteArray) : rdOf ByteArray.empty (pre ++ x :: post) (pre.length : Int) = x := by simp [rdOf, List.getD]
theorem mids_lt (pre post : List ByteArray) (x : ByteArray) : (pre.length : Int) < ((pre ++ x :: post).length : Int) := by
  simp only [List.length_append, List.length_cons]
  omega
/-- The first place of a name, or -1. -/
def ixS (s : ByteArray) : Nat → List ByteArray → Int
  | _, [] => -1
  | n, t :: l => if s.toList = t.toList then (n : Int) else ixS s (n + 1) l
theorem Index_l0 (s : ByteArray) : ∀ (post pre : List ByteArray), (pre ++ post).length ≤ 140737488351232 →
    Ev (fun k => slices_Index_string.l0 k (pre ++ post) s ((pre ++ post).length : Int) (pre.length : Int)) (ixS s pre.length post)
  | [], pre, hl => by
    refine Ev.step (f := fun _ => some (-1)) (fun k => ?_) (Ev.now _)
    simp only [slices_Index_string.l0]
    rw [if_neg (by simp)]
  | x :: post, pre, hl => by
    have hlt := mids_lt pre post x
    have hn : pre.length ≤ 9223372036854775806 := by
      simp only [List.length_append, List.length_cons] at hl
      omega
    have hst : ∀ k, slices_Index_string.l0 (k + 1) (pre ++ x :: post) s ((pre ++ x :: post).length : Int) (pre.length : Int) = if s.toList = x.toList then some (pre.length : Int) else slices_Index_string.l0 k (pre ++ x :: post) s ((pre ++ x :: post).length : Int) ((pre ++ [x]).length : Int) := by
      intro k
      simp only [slices_Index_string.l0]
      rw [rds_mid, if_pos hlt, if_pos (by omega), if_pos hlt, succ_mid _ _ hn]
    unfold ixS
    by_cases c : s.toList = x.toList
    · rw [if_pos c]
      exact Ev.step (fun k => (hst k).trans (if_pos c)) (Ev.now _)
    · rw [if_neg c]
      have ih := Index_l0 s post (pre ++ [x]) (by simpa using hl)
      rw [← mid_snoc] at ih
      have e : (pre ++ [x]).length = pre.length + 1 := by simp
      rw [e] at ih
      refine Ev.step (fun k => (hst k).trans (if_neg c)) ?_
      rw [e]
      exact ih
theorem Index_ev (l : List ByteArray) (s : ByteArray) (hl : l.length ≤ 140737488351232) : Ev (fun k => slices_Index_string.f k l s) (ixS s 0 l) := Ev.congr (fun k => rfl) (Index_l0 s l [] (by simpa using hl))
theorem Contains_ev (l : List ByteArray) (s : ByteArray) (hl : l.length ≤ 140737488351232) : Ev (fun k => slices_Contains_string.f k l s) (decide (ixS s 0 l ≥ 0)) := Ev.bind (Index_ev l s hl) (Ev.now _)
def dupS : List ByteArray → List ByteArray → Bool
  | _, [] => false
  | pre, x :: post => if ixS x 0 pre ≥ 0 then true else dupS (pre ++ [x]) post
def nmsV (l : List ByteArray) : Int := if 16 < l.length then 6 else if l.length = 0 then 1 else if nmA l = true then (if dupS [] l = true then 9 else 0) else 4
theorem checkNames_l1 : ∀ (post pre : List ByteArray), (pre ++ post).length ≤ 140737488351232 →
    Ev (fun k => capture_checkNames.l1 k (pre ++ post) (pre ++ post) ((pre ++ post).length : Int) (pre.length : Int)) (if dupS pre post = true then 9 else 0)
  | [], pre, hl => by
    refine Ev.step (f := fun _ => some 0) (fun k => ?_) ?_
    · simp only [capture_checkNames.l1]
      rw [if_neg (by simp)]
    · rw [show (if dupS pre [] = true then (9 : Int) else 0) = 0 from rfl]
      exact Ev.now _
  | x :: post, pre, hl => by
    have hlt := mids_lt pre post x
    have hn : pre.length ≤ 9223372036854775806 := by
      simp only [List.length_append, List.length_cons] at hl
      omega
    have hp : pre.length ≤ 140737488351232 := by
      simp only [List.length_append, List.length_cons] at hl
      omega
    have hst : ∀ k, capture_checkNames.l1 (k + 1) (pre ++ x :: post) (pre ++ x :: post) ((pre ++ x :: post).length : Int) (pre.length : Int) = (slices_Contains_string.f k pre x).bind fun t111 => (if t111 = true then (some 9) else (capture_checkNames.l1 k (pre ++ x :: post) (pre ++ x :: post) ((pre ++ x :: post).length : Int) ((pre ++ [x]).length : Int))) := by
      intro k
      simp only [capture_checkNames.l1]
      rw [rds_mid, if_pos hlt, if_pos (by omega), if_pos hlt, if_pos (by omega), succ_mid _ _ hn, Int.toNat_natCast, List.take_left' rfl]
    refine Ev.step hst (Ev.bind (Contains_ev pre x hp) ?_)
    unfold dupS
    by_cases c : ixS x 0 pre ≥ 0
    · rw [if_pos c, decide_eq_true c]
      exact Ev.congr (fun k => if_pos rfl) (Ev.now _)
    · rw [if_neg c, decide_eq_false c]
      have ih := checkNames_l1 post (pre ++ [x]) (by simpa using hl)
      rw [← mid_snoc] at ih
      exact Ev.congr (fun k => if_neg (by decide)) ih
theorem checkNames_l0 : ∀ (post pre : List ByteArray) (R : Int), StrsOk post → (pre ++ post).length ≤ 140737488351232 → Ev (fun k => capture_checkNames.l1 k (pre ++ post) (pre ++ post) ((pre ++ post).length : Int) 0) R →
    Ev (fun k => capture_checkNames.l0 k (pre ++ post) (pre ++ post) ((pre ++ post).length : Int) (pre.length : Int)) (if nmA post = true then R else 4)
  | [], pre, R, hs, hl, hR => by
    refine Ev.step (fun k => ?_) (Ev.congr (fun k => rfl) hR)
    simp only [capture_checkNames.l0]
    rw [if_neg (by simp)]
  | x :: post, pre, R, hs, hl, hR => by
    have hlt := mids_lt pre post x
    have hn : pre.length ≤ 9223372036854775806 := by
      simp only [List.length_append, List.length_cons] at hl
      omega
    have hst : ∀ k, capture_checkNames.l0 (k + 1) (pre ++ x :: post) (pre ++ x :: post) ((pre ++ x :: post).length : Int) (pre.length : Int) = (lex_Name.f k x).bind fun t108 => (if t108 = true then (capture_checkNames.l0 k (pre ++ x :: post) (pre ++ x :: post) ((pre ++ x :: post).length : Int) ((pre ++ [x]).length : Int)) else (some 4)) := by
      intro k
      simp only [capture_checkNames.l0]
      rw [rds_mid, if_pos hlt, if_pos (by omega), if_pos hlt, succ_mid _ _ hn]
    refine Ev.step hst (Ev.bind (lex_Name_ev x (hs x (by simp))) ?_)
    unfold nmA
    by_cases c : nmOk x = true
    · rw [if_pos c, c]
      have ih := checkNames_l0 post (pre ++ [x]) R (fun y hy => hs y (by simp [hy])) (by simpa using hl) (by rw [← mid_snoc]; exact hR)
      rw [← mid_snoc] at ih
      exact Ev.congr (fun k => if_pos rfl) ih
    · rw [if_neg c, Bool.eq_false_iff.2 c]
      exact Ev.congr (fun k => if_neg (by decide)) (Ev.now _)
theorem checkNames_ev {l : List ByteArray} (hs : StrsOk l) (hl : l.length ≤ 140737488351232) (h16 : l.length ≤ 16) : Ev (fun k => capture_checkNames.f k l) (nmsV l) := by
  unfold nmsV
  rw [if_neg (by omega)]
  by_cases c : l.length = 0
  · rw [if_pos c]
    refine Ev.congr (fun k => ?_) (Ev.now _)
    unfold capture_checkNames.f
    rw [if_pos (by omega)]
  · rw [if_neg c]
    refine Ev.congr (fun k => ?_) (checkNames_l0 l [] _ hs (by simpa using hl) (checkNames_l1 l [] (by simpa using hl)))
    unfold capture_checkNames.f
    rw [if_neg (by omega)]
    rfl
theorem refnames_l2 (x : ByteArray) (post pre : List ByteArray) (R : Int) (hl : (pre ++ x :: post).length ≤ 140737488351232) (hR : Ev (fun k => signalbenchref09_names.l1 k (pre ++ x :: post) ((pre ++ [x]).length : Int)) R) :
    ∀ (p q : List ByteArray), pre = q ++ p → Ev (fun k => signalbenchref09_names.l2 k (pre ++ x :: post) (pre.length : Int) (q.length : Int)) (if ixS x q.length p ≥ 0 then 9 else R)
  | [], q, e => by
    have e1 : pre.length = q.length := by rw [e]; simp
    have hn : pre.length ≤ 9223372036854775806 := by
      simp only [List.length_append, List.length_cons] at hl
      omega
    rw [show (if ixS x q.length [] ≥ 0 then (9 : Int) else R) = R from if_neg (by show ¬ ((-1 : Int) ≥ 0); omega)]
    refine Ev.step (fun k => ?_) hR
    simp only [signalbenchref09_names.l2]
    rw [if_neg (by omega), succ_mid _ _ hn]
  | t :: p, q, e => by
    have e1 : pre.length = q.length + (p.length + 1) := by rw [e]; simp
    have hlt := mids_lt pre post x
    have e2 : rdOf ByteArray.empty (pre ++ x :: post) (q.length : Int) = t := by
      rw [e, List.append_assoc]
      exact rds_mid q (p ++ x :: post) t
    have hn : q.length ≤ 9223372036854775806 := by
      simp only [List.length_append, List.length_cons] at hl
      omega
    have hst : ∀ k, signalbenchref09_names.l2 (k + 1) (pre ++ x :: post) (pre.length : Int) (q.length : Int) = if x.toList = t.toList then some 9 else signalbenchref09_names.l2 k (pre ++ x :: post) (pre.length : Int) ((q ++ [t]).length : Int) := by
      intro k
      simp only [signalbenchref09_names.l2]
      rw [rds_mid, e2, if_pos (by omega), if_pos (by omega), if_pos hlt, if_pos (by omega), if_pos (by omega), succ_mid _ _ hn]
    unfold ixS
    by_cases c : x.toList = t.toList
    · rw [if_pos c, if_pos (by omega)]
      exact Ev.step (fun k => (hst k).trans (if_pos c)) (Ev.now _)
    · rw [if_neg c]
      have ih := refnames_l2 x post pre R hl hR p (q ++ [t]) (by rw [e, mid_snoc])
      have e3 : (q ++ [t]).length = q.length + 1 := by simp
      rw [e3] at ih
      refine Ev.step (fun k => (hst k).trans (if_neg c)) ?_
      rw [e3]
      exact ih
theorem refnames_l1 : ∀ (post pre : List ByteArray), (pre ++ post).length ≤ 140737488351232 →
    Ev (fun k => signalbenchref09_names.l1 k (pre ++ post) (pre.length : Int)) (if dupS pre post = true then 9 else 0)
  | [], pre, hl => by
    refine Ev.step (f := fun _ => some 0) (fun k => ?_) ?_
    · simp only [signalbenchref09_names.l1]
      rw [if_neg (by simp)]
    · rw [show (if dupS pre [] = true then (9 : Int) else 0) = 0 from rfl]
      exact Ev.now _
  | x :: post, pre, hl => by
    have hlt := mids_lt pre post x
    have ih := refnames_l1 post (pre ++ [x]) (by simpa using hl)
    rw [← mid_snoc] at ih
    have h2 := refnames_l2 x post pre _ hl ih pre [] rfl
    have e : (if dupS pre (x :: post) = true then (9 : Int) else 0) = if ixS x ([] : List ByteArray).length pre ≥ 0 then 9 else if dupS (pre ++ [x]) post = true then 9 else 0 := by
      show (if (if ixS x 0 pre ≥ 0 then true else dupS (pre ++ [x]) post) = true then (9 : Int) else 0) = if ixS x 0 pre ≥ 0 then 9 else _
      by_cases c : ixS x 0 pre ≥ 0
      · rw [if_pos c, if_pos c, if_pos rfl]
      · rw [if_neg c, if_neg c]
    rw [e]
    refine Ev.step (fun k => ?_) h2
    simp only [signalbenchref09_names.l1]
    rw [if_pos hlt]
    rfl
theorem refnames_l0 : ∀ (post pre : List ByteArray) (R : Int), StrsOk post → (pre ++ post).length ≤ 140737488351232 → Ev (fun k => signalbenchref09_names.l1 k (pre ++ post) 0) R →
    Ev (fun k => signalbenchref09_names.l0 k (pre ++ post) (pre.length : Int)) (if nmA post = true then R else 4)
  | [], pre, R, hs, hl, hR => by
    refine Ev.step (fun k => ?_) (Ev.congr (fun k => rfl) hR)
    simp only [signalbenchref09_names.l0]
    rw [if_neg (by simp)]
  | x :: post, pre, R, hs, hl, hR => by
    have hlt := mids_lt pre post x
    have hn : pre.length ≤ 9223372036854775806 := by
      simp only [List.length_append, List.length_cons] at hl
      omega
    have hst : ∀ k, signalbenchref09_names.l0 (k + 1) (pre ++ x :: post) (pre.length : Int) = (signalbenchref09_name.f k x).bind fun t108 => (if t108 = true then (signalbenchref09_names.l0 k (pre ++ x :: post) ((pre ++ [x]).length : Int)) else (some 4)) := by
      intro k
      simp only [signalbenchref09_names.l0]
      rw [rds_mid, if_pos hlt, if_pos (by omega), succ_mid _ _ hn]
    refine Ev.step hst (Ev.bind (ref_name_ev x (hs x (by simp))) ?_)
    unfold nmA
    by_cases c : nmOk x = true
    · rw [if_pos c, c]
      have ih := refnames_l0 post (pre ++ [x]) R (fun y hy => hs y (by simp [hy])) (by simpa using hl) (by rw [← mid_snoc]; exact hR)
      rw [← mid_snoc] at ih
      exact Ev.congr (fun k => if_pos rfl) ih
    · rw [if_neg c, Bool.eq_false_iff.2 c]
      exact Ev.congr (fun k => if_neg (by decide)) (Ev.now _)
theorem refnames_ev {l : List ByteArray} (hs : StrsOk l) (hl : l.length ≤ 140737488351232) : Ev (fun k => signalbenchref09_names.f k l) (nmsV l) := by
  unfold nmsV
  by_cases h : 16 < l.length
  · rw [if_pos h]
    refine Ev.congr (fun k => ?_) (Ev.now _)
    unfold signalbenchref09_names.f
    rw [if_pos (by omega)]
  · rw [if_neg h]
    by_cases c : l.length = 0
    · rw [if_pos c]
      refine Ev.congr (fun k => ?_) (Ev.now _)
      unfold signalbenchref09_names.f
      rw [if_neg (by omega), if_pos (by omega)]
    · rw [if_neg c]
      refine Ev.congr (fun k => ?_) (refnames_l0 l [] _ hs (by simpa using hl) (refnames_l1 l [] (by simpa using hl)))
      unfold signalbenchref09_names.f
      rw [if_neg (by omega), if_neg (by omega)]
      rfl
def sm : List S48 → Int
  | [] => 0
  | x :: l => x.f1 + sm l
/-- Levels from 0 to m, and at least one tick each. -/
def RunsM (m : Int) (l : List S48) : Prop := ∀ x ∈ l, 0 ≤ x.f0 ∧ x.f0 ≤ m ∧ 1 ≤ x.f1
def rOk (m : Int) : Int → List S48 → Bool
  | left, [] => true
  | left, x :: l => if 0 ≤ x.f0 ∧ x.f0 ≤ m ∧ 1 ≤ x.f1 ∧ x.f1 ≤ left then rOk m (left - x.f1) l else false
theorem rd_mid (pre post : List S48) (x : S48) : rd_T48 (pre ++ x :: post) (pre.length : Int) = x := by simp [rd_T48, List.getD]
theorem mid_lt (pre post : List S48) (x : S48) : (pre.length : Int) < ((pre ++ x :: post).length : Int) := by
  simp only [List.length_append, List.length_cons]
  omega
theorem RunsM.cons {m : Int} {x : S48} {l : List S48} (h : RunsM m (x :: l)) : (0 ≤ x.f0 ∧ x.f0 ≤ m ∧ 1 ≤ x.f1) ∧ RunsM m l := ⟨h x (by simp), fun y hy => h y (by simp [hy])⟩
theorem smM_nonneg {m : Int} : ∀ {l : List S48}, RunsM m l → 0 ≤ sm l
  | [], _ => Int.le_refl _
  | x :: l, h => by
    have h1 := h.cons
    have h2 := smM_nonneg h1.2
    simp only [sm]
    omega
theorem sm_append : ∀ (a b : List S48), sm (a ++ b) = sm a + sm b
  | [], b => by simp [sm]
  | x :: a, b => by
    have := sm_append a b
    simp only [List.cons_append, sm]
    omega
theorem rOk_iff {m : Int} : ∀ {l : List S48} {left : Int}, 0 ≤ left → (rOk m left l = true ↔ RunsM m l ∧ sm l ≤ left)
  | [], left, h => by simp [rOk, RunsM, sm, h]
  | x :: l, left, h => by
    unfold rOk
    by_cases c : 0 ≤ x.f0 ∧ x.f0 ≤ m ∧ 1 ≤ x.f1 ∧ x.f1 ≤ left
    · rw [if_pos c, rOk_iff (l := l) (by omega)]
      simp only [RunsM, sm, List.mem_cons, forall_eq_or_imp]
      constructor
      · rintro ⟨h1, h2⟩
        exact ⟨⟨⟨c.1, c.2.1, c.2.2.1⟩, h1⟩, by omega⟩
      · rintro ⟨⟨h1, h2⟩, h3⟩
        exact ⟨h2, by omega⟩
    · rw [if_neg c]
      simp only [Bool.false_eq_true, false_iff]
      rintro ⟨h1, h2⟩
      have h3 := h1.cons
      have h4 := smM_nonneg h3.2
      simp only [sm] at h2
      exact c ⟨h3.1.1, h3.1.2.1, h3.1.2.2, by omega⟩
def mk (l : List ByteArray) : Int := wrap64 ((shl .i64 1 (l.length : Int)) - 1)
def chkV (l : List ByteArray) (r : List S48) : Int := if 262144 < r.length then 6 else if nmsV l = 0 then (if rOk (mk l) 1099511627776 r = true then 0 else 2) else nmsV l
theorem chk_0 {l : List ByteArray} {r : List S48} (h : chkV l r = 0) : r.length ≤ 262144 ∧ nmsV l = 0 ∧ RunsM (mk l) r ∧ sm r ≤ 1099511627776 := by
  unfold chkV at h
  by_cases c : 262144 < r.length
  · rw [if_pos c] at h
    omega
  · rw [if_neg c] at h
    by_cases c1 : nmsV l = 0
    · rw [if_pos c1] at h
      by_cases c2 : rOk (mk l) 1099511627776 r = true
      · exact ⟨by omega, c1, (rOk_iff (by omega)).1 c2⟩
      · rw [if_neg c2] at h
        omega
    · rw [if_neg c1] at h
      exact absurd h c1
theorem Check_l0 (m : Int) : ∀ (post pre : List S48) (left : Int), 0 ≤ left → left ≤ 1099511627776 → (pre ++ post).length ≤ 140737488351232 →
    Ev (fun k => capture_Check.l0 k m left (pre ++ post) ((pre ++ post).length : Int) (pre.length : Int)) (if rOk m left post = true then 0 else 2)
  | [], pre, left, h0, h1, hl => by
    rw [show (if rOk m left [] = true then (0 : Int) else 2) = 0 from rfl]
    refine Ev.step (f := fun _ => some 0) (fun k => ?_) (Ev.now _)
    simp only [capture_Check.l0]
    rw [if_neg (by simp)]
  | x :: post, pre, left, h0, h1, hl => by
    have hlt := mid_lt pre post x
    have hn : pre.length ≤ 9223372036854775806 := by
      simp only [List.length_append, List.length_cons] at hl
      omega
    unfold rOk
    by_cases c : 0 ≤ x.f0 ∧ x.f0 ≤ m ∧ 1 ≤ x.f1 ∧ x.f1 ≤ left
    · have ih := Check_l0 m post (pre ++ [x]) (left - x.f1) (by omega) (by omega) (by simpa using hl)
      rw [← mid_snoc] at ih
      rw [if_pos c]
      refine Ev.step (fun k => ?_) ih
      simp only [capture_Check.l0]
      rw [rd_mid, if_pos hlt, if_pos (by omega), if_pos hlt, if_neg (by omega), if_neg (by omega), if_neg (by omega), if_neg (by omega), w64 (by omega) (by omega), succ_mid _ _ hn]
    · rw [if_neg c, show (if false = true then (0 : Int) else 2) = 2 from rfl]
      refine Ev.step (f := fun _ => some 2) (fun k => ?_) (Ev.now _)
      simp only [capture_Check.l0]
      rw [rd_mid, if_pos hlt, if_pos (by omega), if_pos hlt]
      by_cases c1 : x.f0 < 0
      · rw [if_pos c1]
      · rw [if_neg c1]
        by_cases c2 : x.f0 > m
        · rw [if_pos c2]
        · rw [if_neg c2]
          by_cases c3 : x.f1 < 1
          · rw [if_pos c3]
          · rw [if_neg c3, if_pos (by omega)]
theorem Check_ev {l : List ByteArray} {r : List S48} (hs : StrsOk l) (hl : l.length ≤ 140737488351232) (hr : r.length ≤ 140737488351232) : Ev (fun k => capture_Check.f k l r) (chkV l r) := by
  have hj : Ev (fun k => capture_Check.j0 k true l r) 6 := Ev.step (f := fun _ => some 6) (fun k => by simp only [capture_Check.j0]; rfl) (Ev.now _)
  by_cases c : 16 < l.length
  · have e : chkV l r = 6 := by
      have e1 : nmsV l = 6 := by
        unfold nmsV
        rw [if_pos c]
      unfold chkV
      rw [e1]
      by_cases c1 : 262144 < r.length
      · rw [if_pos c1]
      · rw [if_neg c1]
        rfl
    rw [e]
    refine Ev.congr (fun k => ?_) hj
    unfold capture_Check.f
    rw [if_pos (by omega)]
  · have e : ∀ k, capture_Check.f k l r = capture_Check.j0 k (decide ((r.length : Int) > 262144)) l r := by
      intro k
      unfold capture_Check.f
      rw [if_neg (by omega)]
    refine Ev.congr e ?_
    unfold chkV
    by_cases c1 : 262144 < r.length
    · rw [if_pos c1, decide_eq_true (by omega)]
      exact hj
    · rw [if_neg c1, decide_eq_false (by omega)]
      refine Ev.step (f := fun k => (capture_checkNames.f k l).bind fun t113 => (if t113 = 0 then (capture_Check.l0 k (mk l) 1099511627776 r (r.length : Int) 0) else (some t113))) (fun k => ?_) (Ev.bind (checkNames_ev hs hl (by omega)) ?_)
      · simp only [capture_Check.j0]
        rw [if_neg (by decide)]
        rfl
      · by_cases c2 : nmsV l = 0
        · rw [if_pos c2]
          exact Ev.congr (fun k => if_pos c2) (Check_l0 (mk l) r [] 1099511627776 (by omega) (by omega) (by simpa using hr))
        · rw [if_neg c2]
          exact Ev.congr (fun k => if_neg c2) (Ev.now _)
theorem refruns_l0 (m : Int) : ∀ (post pre : List S48) (left : Int), 0 ≤ left → left ≤ 1099511627776 → (pre ++ post).length ≤ 140737488351232 →
    Ev (fun k => signalbenchref09_runs.l0 k (pre ++ post) m left (pre.length : Int)) (rOk m left post)
  | [], pre, left, h0, h1, hl => by
    refine Ev.step (f := fun _ => some true) (fun k => ?_) (Ev.now _)
    simp only [signalbenchref09_runs.l0]
    rw [if_neg (by simp)]
  | x :: post, pre, left, h0, h1, hl => by
    have hlt := mid_lt pre post x
    have hn : pre.length ≤ 9223372036854775806 := by
      simp only [List.length_append, List.length_cons] at hl
      omega
    unfold rOk
    by_cases c : 0 ≤ x.f0 ∧ x.f0 ≤ m ∧ 1 ≤ x.f1 ∧ x.f1 ≤ left
    · have ih := refruns_l0 m post (pre ++ [x]) (left - x.f1) (by omega) (by omega) (by simpa using hl)
      rw [← mid_snoc] at ih
      rw [if_pos c]
      refine Ev.step (fun k => ?_) ih
      simp only [signalbenchref09_runs.l0]
      rw [rd_mid, if_pos hlt, if_pos (by omega), if_neg (by omega), if_neg (by omega), if_neg (by omega), if_neg (by omega), w64 (by omega) (by omega), succ_mid _ _ hn]
    · rw [if_neg c]
      refine Ev.step (f := fun _ => some false) (fun k => ?_) (Ev.now _)
      simp only [signalbenchref09_runs.l0]
      rw [rd_mid, if_pos hlt, if_pos (by omega)]
      by_cases c1 : x.f0 < 0
      · rw [if_pos c1]
      · rw [if_neg c1]
        by_cases c2 : x.f0 > m
        · rw [if_pos c2]
        · rw [if_neg c2]
          by_cases c3 : x.f1 < 1
          · rw [if_pos c3]
          · rw [if_neg c3, if_pos (by omega)]
theorem refruns_ev (m : Int) {r : List S48} (hr : r.length ≤ 140737488351232) : Ev (fun k => signalbenchref09_runs.f k r m) (rOk m 1099511627776 r) :=
  Ev.congr (fun k => rfl) (refruns_l0 m r [] 1099511627776 (by omega) (by omega) (by simpa using hr))
theorem refCheck_ev {l : List ByteArray} {r : List S48} (hs : StrsOk l) (hl : l.length ≤ 140737488351232) (hr : r.length ≤ 140737488351232) : Ev (fun k => signalbenchref09_Check.f k l r) (chkV l r) := by
  unfold chkV
  by_cases c1 : 262144 < r.length
  · rw [if_pos c1]
    refine Ev.congr (fun k => ?_) (Ev.now _)
    unfold signalbenchref09_Check.f
    rw [if_pos (by omega)]
  · rw [if_neg c1]
    refine Ev.congr (f := fun k => (signalbenchref09_names.f k l).bind fun t216 => (if t216 = 0 then ((signalbenchref09_runs.f k r (mk l)).bind fun t217 => (if t217 = true then (some 0) else (some 2))) else (some t216))) (fun k => ?_) (Ev.bind (refnames_ev hs hl) ?_)
    · unfold signalbenchref09_Check.f
      rw [if_neg (by omega)]
      rfl
    · by_cases c2 : nmsV l = 0
      · rw [if_pos c2]
        refine Ev.congr (fun k => if_pos c2) (Ev.bind (refruns_ev (mk l) hr) ?_)
        by_cases c3 : rOk (mk l) 1099511627776 r = true
        · simp only [if_pos c3]
          exact Ev.now _
        · simp only [if_neg c3]
          exact Ev.now _
      · rw [if_neg c2]
        exact Ev.congr (fun k => if_neg c2) (Ev.now _)
theorem refGood_ev {l : List ByteArray} {r : List S48} (hs : StrsOk l) (hl : l.length ≤ 140737488351232) (hr : r.length ≤ 140737488351232) : Ev (fun k => signalbenchref09_Good.f k l r) (chkV l r == 0) :=
  Ev.bind (refCheck_ev hs hl hr) (Ev.now _)
theorem lives09_ev : Ev (fun k => signalbenchlaw09_lives.f k) true := Ev.of (k := 60) (fun k => signalbenchlaw09_lives.mono k) (by decide +kernel)
def fewV (l : List ByteArray) (r : List S48) : Bool := decide (l.length ≤ 100 ∧ r.length ≤ 2000)
theorem few09_eq (l : List ByteArray) (r : List S48) : signalbenchlaw09_few.f l r = some (fewV l r) := by
  unfold signalbenchlaw09_few.f fewV
  by_cases c : l.length ≤ 100
  · rw [if_pos (by omega)]
    by_cases c1 : r.length ≤ 2000
    · rw [decide_eq_true (by omega), decide_eq_true ⟨c, c1⟩]
    · rw [decide_eq_false (by omega), decide_eq_false (fun h => c1 h.2)]
  · rw [if_neg (by omega), decide_eq_false (fun h => c h.1)]
/-- A run put behind runs. -/
def putR (o : List S48) (v t : Int) : List S48 :=
  match o.getLast? with
  | some y => if y.f0 = v then o.dropLast ++ [(⟨y.f0, y.f1 + t⟩ : S48)] else o ++ [(⟨v, t⟩ : S48)]
  | none => [(⟨v, t⟩ : S48)]
theorem putR_nil (v t : Int) : putR [] v t = [⟨v, t⟩] := rfl
theorem putR_same (o : List S48) (y : S48) (t : Int) : putR (o ++ [y]) y.f0 t = o ++ [⟨y.f0, y.f1 + t⟩] := by
  simp [putR]
theorem putR_new (o : List S48) (y : S48) {v t : Int} (h : ¬ y.f0 = v) : putR (o ++ [y]) v t = o ++ [y] ++ [⟨v, t⟩] := by
  simp [putR, h]
theorem snoc_cases {α : Type} (o : List α) : o = [] ∨ ∃ q y, o = q ++ [y] := by
  rcases List.eq_nil_or_concat o with h | ⟨q, y, h⟩
  · exact .inl h
  · exact .inr ⟨q, y, by simpa using h⟩
theorem last_at (o : List S48) (x : S48) (h : o.length ≤ 9223372036854775806) : wrap64 (((o ++ [x]).length : Int) - 1) = (o.length : Int) := by
  rw [w64 (by simp only [List.length_append, List.length_cons, List.length_nil]; omega) (by simp only [List.length_append, List.length_cons, List.length_nil]; omega)]
  simp
theorem rd_last (o : List S48) (x : S48) : rd_T48 (o ++ [x]) (o.length : Int) = x := rd_mid o [] x
theorem set_last (o : List S48) (x y : S48) : (o ++ [x]).set ((o.length : Int)).toNat y = o ++ [y] := by
  rw [Int.toNat_natCast]
  simp
theorem join_eq {o : List S48} {v t : Int} (ho : o.length < 8796093022208) (h0 : 0 ≤ t) (hs : ∀ y ∈ o, 0 ≤ y.f1 ∧ y.f1 + t ≤ 9223372036854775807) : capture_join.f o v t = some (putR o v t) := by
  rcases snoc_cases o with rfl | ⟨q, y, rfl⟩
  · unfold capture_join.f
    rw [if_neg (by simp), if_pos (by simp)]
    rfl
  · have hy := hs y (by simp)
    have hq : q.length ≤ 9223372036854775806 := by
      simp only [List.length_append, List.length_cons, List.length_nil] at ho
      omega
    have hlt : (q.length : Int) < ((q ++ [y]).length : Int) := mid_lt q [] y
    unfold capture_join.f
    rw [last_at q y hq, rd_last, if_pos (by omega), if_pos (by omega), if_pos hlt]
    by_cases c : y.f0 = v
    · rw [if_pos c, set_last, w64 (by omega) (by omega), ← c, putR_same]
    · rw [if_neg c, if_pos ho, putR_new q y c]
theorem refput_eq {o : List S48} {v t : Int} (ho : o.length < 8796093022208) (h0 : 1 ≤ t) (hs : ∀ y ∈ o, 0 ≤ y.f1 ∧ y.f1 + t ≤ 9223372036854775807) : signalbenchref09_put.f o v t = some (putR o v t) := by
  rcases snoc_cases o with rfl | ⟨q, y, rfl⟩
  · unfold signalbenchref09_put.f
    rw [if_neg (by omega), if_neg (by simp), if_pos (by simp)]
    rfl
  · have hy := hs y (by simp)
    have hq : q.length ≤ 9223372036854775806 := by
      simp only [List.length_append, List.length_cons, List.length_nil] at ho
      omega
    have hlt : (q.length : Int) < ((q ++ [y]).length : Int) := mid_lt q [] y
    unfold signalbenchref09_put.f
    rw [last_at q y hq, rd_last, if_neg (by omega), if_pos (by omega), if_pos (by omega), if_pos hlt]
    by_cases c : y.f0 = v
    · rw [if_pos c, set_last, w64 (by omega) (by omega), ← c, putR_same]
    · rw [if_neg c, if_pos ho, putR_new q y c]
theorem putR_sm (o : List S48) (v t : Int) : sm (putR o v t) = sm o + t := by
  rcases snoc_cases o with rfl | ⟨q, y, rfl⟩
  · simp [putR_nil, sm]
  · by_cases c : y.f0 = v
    · rw [← c, putR_same]
      simp only [sm_append, sm]
      omega
    · rw [putR_new q y c]
      simp only [sm_append, sm]
      omega
theorem putR_len (o : List S48) (v t : Int) : (putR o v t).length ≤ o.length + 1 := by
  rcases snoc_cases o with rfl | ⟨q, y, rfl⟩
  · simp [putR_nil]
  · by_cases c : y.f0 = v
    · rw [← c, putR_same]
      simp
    · rw [putR_new q y c]
      simp
theorem putR_ok {m : Int} {o : List S48} {v t : Int} (h : RunsM m o) (hv : 0 ≤ v ∧ v ≤ m) (ht : 1 ≤ t) : RunsM m (putR o v t) := by
  rcases snoc_cases o with rfl | ⟨q, y, rfl⟩
  · intro x hx
    rw [putR_nil, List.mem_singleton] at hx
    subst hx
    exact ⟨hv.1, hv.2, ht⟩
  · have hy := h y (by simp)
    by_cases c : y.f0 = v
    · rw [← c, putR_same]
      intro x hx
      rcases List.mem_append.1 hx with hx | hx
      · exact h x (by simp [hx])
      · rw [List.mem_singleton] at hx
        subst hx
        exact ⟨hy.1, hy.2.1, by show 1 ≤ y.f1 + t; omega⟩
    · rw [putR_new q y c]
      intro x hx
      rcases List.mem_append.1 hx with hx | hx
      · exact h x hx
      · rw [List.mem_singleton] at hx
        subst hx
        exact ⟨hv.1, hv.2, ht⟩
/-- Each run has at most the sum of all. -/
theorem le_sm {m : Int} : ∀ {l : List S48}, RunsM m l → ∀ y ∈ l, 0 ≤ y.f1 ∧ y.f1 ≤ sm l
  | [], h, y, hy => by simp at hy
  | x :: l, h, y, hy => by
    have hx := h.cons
    have h0 := smM_nonneg hx.2
    simp only [sm]
    rcases List.mem_cons.1 hy with rfl | hy
    · omega
    · have := le_sm hx.2 y hy
      omega
def cln : List S48 → List S48 → List S48
  | o, [] => o
  | o, x :: l => cln (putR o x.f0 x.f1) l
theorem cln_len : ∀ (l o : List S48), (cln o l).length ≤ o.length + l.length
  | [], o => by simp [cln]
  | x :: l, o => by
    have := cln_len l (putR o x.f0 x.f1)
    have := putR_len o x.f0 x.f1
    simp only [cln, List.length_cons]
    omega
theorem clean_l0 {m : Int} : ∀ (post pre o : List S48), RunsM m o → RunsM m post → sm o + sm post ≤ 1099511627776 → (pre ++ post).length ≤ 262144 → o.length + post.length ≤ 262144 →
    Ev (fun k => capture_clean.l0 k o (pre ++ post) ((pre ++ post).length : Int) (pre.length : Int)) (cln o post)
  | [], pre, o, h0, h1, hs, hl, ho => by
    refine Ev.step (f := fun _ => some o) (fun k => ?_) (Ev.now _)
    simp only [capture_clean.l0]
    rw [if_neg (by simp)]
  | x :: post, pre, o, h0, h1, hs, hl, ho => by
    have hx := h1.cons
    have h2 := smM_nonneg hx.2
    have h3 := smM_nonneg h0
    simp only [sm] at hs
    simp only [List.length_cons] at ho
    have hlt := mid_lt pre post x
    have hn : pre.length ≤ 9223372036854775806 := by
      simp only [List.length_append, List.length_cons] at hl
      omega
    have hj : capture_join.f o x.f0 x.f1 = some (putR o x.f0 x.f1) := join_eq (by omega) (by omega) (fun y hy => by have := le_sm h0 y hy; omega)
    have ih := clean_l0 post (pre ++ [x]) (putR o x.f0 x.f1) (putR_ok h0 ⟨hx.1.1, hx.1.2.1⟩ hx.1.2.2) hx.2 (by rw [putR_sm]; omega) (by simpa using hl) (by have := putR_len o x.f0 x.f1; omega)
    rw [← mid_snoc] at ih
    refine Ev.step (fun k => ?_) ih
    simp only [capture_clean.l0]
    rw [rd_mid, if_pos hlt, if_pos (by omega), if_pos hlt, hj, Option.bind_some, succ_mid _ _ hn]
theorem clean_ev {m : Int} {r : List S48} (h : RunsM m r) (hs : sm r ≤ 1099511627776) (hr : r.length ≤ 262144) : Ev (fun k => capture_clean.f k r) (cln [] r) :=
  Ev.congr (fun k => rfl) (clean_l0 r [] [] (fun x hx => by simp at hx) h (by simp only [sm]; omega) (by simpa using hr) (by simpa using hr))
theorem refClean_l0 {m : Int} : ∀ (post pre o : List S48), RunsM m o → RunsM m post → sm o + sm post ≤ 1099511627776 → (pre ++ post).length ≤ 262144 → o.length + post.length ≤ 262144 →
    Ev (fun k => signalbenchref09_Clean.l0 k (pre ++ post) o (pre.length : Int)) (cln o post)
  | [], pre, o, h0, h1, hs, hl, ho => by
    refine Ev.step (f := fun _ => some o) (fun k => ?_) (Ev.now _)
    simp only [signalbenchref09_Clean.l0]
    rw [if_neg (by simp)]
  | x :: post, pre, o, h0, h1, hs, hl, ho => by
    have hx := h1.cons
    have h2 := smM_nonneg hx.2
    have h3 := smM_nonneg h0
    simp only [sm] at hs
    simp only [List.length_cons] at ho
    have hlt := mid_lt pre post x
    have hn : pre.length ≤ 9223372036854775806 := by
      simp only [List.length_append, List.length_cons] at hl
      omega
    have hj : signalbenchref09_put.f o x.f0 x.f1 = some (putR o x.f0 x.f1) := refput_eq (by omega) hx.1.2.2 (fun y hy => by have := le_sm h0 y hy; omega)
    have ih := refClean_l0 post (pre ++ [x]) (putR o x.f0 x.f1) (putR_ok h0 ⟨hx.1.1, hx.1.2.1⟩ hx.1.2.2) hx.2 (by rw [putR_sm]; omega) (by simpa using hl) (by have := putR_len o x.f0 x.f1; omega)
    rw [← mid_snoc] at ih
    refine Ev.step (fun k => ?_) ih
    simp only [signalbenchref09_Clean.l0]
    rw [rd_mid, if_pos hlt, if_pos (by omega), hj, Option.bind_some, succ_mid _ _ hn]
theorem refClean_ev {m : Int} {r : List S48} (h : RunsM m r) (hs : sm r ≤ 1099511627776) (hr : r.length ≤ 262144) : Ev (fun k => signalbenchref09_Clean.f k r) (cln [] r) :=
  Ev.congr (fun k => rfl) (refClean_l0 r [] [] (fun x hx => by simp at hx) h (by simp only [sm]; omega) (by simpa using hr) (by simpa using hr))
def eqR : List S48 → List S48 → Bool
  | [], _ => true
  | _ :: _, [] => false
  | x :: a, y :: b => if x.f0 = y.f0 ∧ x.f1 = y.f1 then eqR a b else false
theorem rne_iff (x y : S48) : (!((x.f0) == (y.f0)) || (!((x.f1) == (y.f1)))) = true ↔ ¬ (x.f0 = y.f0 ∧ x.f1 = y.f1) := by
  by_cases h : x.f0 = y.f0 <;> by_cases h' : x.f1 = y.f1 <;> simp [h, h']
theorem eqR_refl : ∀ (a : List S48), eqR a a = true
  | [] => rfl
  | x :: a => by
    unfold eqR
    rw [if_pos ⟨rfl, rfl⟩]
    exact eqR_refl a
theorem eqR_symm : ∀ (a b : List S48), a.length = b.length → eqR a b = eqR b a
  | [], [], _ => rfl
  | [], y :: b, h => by simp at h
  | x :: a, [], h => by simp at h
  | x :: a, y :: b, h => by
    unfold eqR
    by_cases c : x.f0 = y.f0 ∧ x.f1 = y.f1
    · rw [if_pos c, if_pos ⟨c.1.symm, c.2.symm⟩]
      exact eqR_symm a b (by simpa using h)
    · rw [if_neg c, if_neg (fun h => c ⟨h.1.symm, h.2.symm⟩)]
theorem EqualRun_l0 : ∀ (p q a b : List S48), p.length = q.length → a.length = b.length → (p ++ a).length ≤ 140737488351232 →
    Ev (fun k => slices_Equal_Run.l0 k (p ++ a) (q ++ b) ((p ++ a).length : Int) (p.length : Int)) (eqR a b)
  | p, q, [], b, hp, hab, hl => by
    refine Ev.step (f := fun _ => some true) (fun k => ?_) (Ev.now _)
    simp only [slices_Equal_Run.l0]
    rw [if_neg (by simp)]
  | p, q, x :: a, [], hp, hab, hl => by simp at hab
  | p, q, x :: a, y :: b, hp, hab, hl => by
    have hlt := mid_lt p a x
    have hlt2 := mid_lt q b y
    have hn : p.length ≤ 9223372036854775806 := by
      simp only [List.length_append, List.length_cons] at hl
      omega
    have e2 : rd_T48 (q ++ y :: b) (p.length : Int) = y := by
      rw [hp]
      exact rd_mid q b y
    have hst : ∀ k, slices_Equal_Run.l0 (k + 1) (p ++ x :: a) (q ++ y :: b) ((p ++ x :: a).length : Int) (p.length : Int) = if (!((x.f0) == (y.f0)) || (!((x.f1) == (y.f1)))) = true then some false else slices_Equal_Run.l0 k (p ++ x :: a) (q ++ y :: b) ((p ++ x :: a).length : Int) ((p ++ [x]).length : Int) := by
      intro k
      simp only [slices_Equal_Run.l0]
      rw [rd_mid, e2, if_pos hlt, if_pos (by omega), if_pos hlt, if_pos (by rw [hp]; exact hlt2), succ_mid _ _ hn]
    unfold eqR
    by_cases c : x.f0 = y.f0 ∧ x.f1 = y.f1
    · rw [if_pos c]
      have ih := EqualRun_l0 (p ++ [x]) (q ++ [y]) a b (by simp [hp]) (by simpa using hab) (by simpa using hl)
      rw [← mid_snoc, ← mid_snoc] at ih
      exact Ev.step (fun k => (hst k).trans (if_neg (fun h => (rne_iff x y).1 h c))) ih
    · rw [if_neg c]
      exact Ev.step (fun k => (hst k).trans (if_pos ((rne_iff x y).2 c))) (Ev.now _)
def eqRV (a b : List S48) : Bool := if a.length = b.length then eqR a b else false
theorem EqualRun_ev {a b : List S48} (hl : a.length ≤ 140737488351232) : Ev (fun k => slices_Equal_Run.f k a b) (eqRV a b) := by
  unfold eqRV
  by_cases c : a.length = b.length
  · rw [if_pos c]
    refine Ev.congr (fun k => ?_) (EqualRun_l0 [] [] a b rfl c (by simpa using hl))
    unfold slices_Equal_Run.f
    rw [if_pos (by omega)]
    rfl
  · rw [if_neg c]
    refine Ev.congr (fun k => ?_) (Ev.now _)
    unfold slices_Equal_Run.f
    rw [if_neg (by omega)]
def eqS : List ByteArray → List ByteArray → Bool
  | [], _ => true
  | _ :: _, [] => false
  | x :: a, y :: b => if x.toList = y.toList then eqS a b else false
theorem eqS_refl : ∀ (a : List ByteArray), eqS a a = true
  | [] => rfl
  | x :: a => by
    unfold eqS
    rw [if_pos rfl]
    exact eqS_refl a
theorem eqS_symm : ∀ (a b : List ByteArray), a.length = b.length → eqS a b = eqS b a
  | [], [], _ => rfl
  | [], y :: b, h => by simp at h
  | x :: a, [], h => by simp at h
  | x :: a, y :: b, h => by
    unfold eqS
    by_cases c : x.toList = y.toList
    · rw [if_pos c, if_pos c.symm]
      exact eqS_symm a b (by simpa using h)
    · rw [if_neg c, if_neg (fun h => c h.symm)]
theorem EqualStr_l0 : ∀ (p q a b : List ByteArray), p.length = q.length → a.length = b.length → (p ++ a).length ≤ 140737488351232 →
    Ev (fun k => slices_Equal_string.l0 k (p ++ a) (q ++ b) ((p ++ a).length : Int) (p.length : Int)) (eqS a b)
  | p, q, [], b, hp, hab, hl => by
    refine Ev.step (f := fun _ => some true) (fun k => ?_) (Ev.now _)
    simp only [slices_Equal_string.l0]
    rw [if_neg (by simp)]
  | p, q, x :: a, [], hp, hab, hl => by simp at hab
  | p, q, x :: a, y :: b, hp, hab, hl => by
    have hlt := mids_lt p a x
    have hlt2 := mids_lt q b y
    have hn : p.length ≤ 9223372036854775806 := by
      simp only [List.length_append, List.length_cons] at hl
      omega
    have e2 : rdOf ByteArray.empty (q ++ y :: b) (p.length : Int) = y := by
      rw [hp]
      exact rds_mid q b y
    have hst : ∀ k, slices_Equal_string.l0 (k + 1) (p ++ x :: a) (q ++ y :: b) ((p ++ x :: a).length : Int) (p.length : Int) = if x.toList = y.toList then slices_Equal_string.l0 k (p ++ x :: a) (q ++ y :: b) ((p ++ x :: a).length : Int) ((p ++ [x]).length : Int) else some false := by
      intro k
      simp only [slices_Equal_string.l0]
      rw [rds_mid, e2, if_pos hlt, if_pos (by omega), if_pos hlt, if_pos (by rw [hp]; exact hlt2), succ_mid _ _ hn]
    unfold eqS
    by_cases c : x.toList = y.toList
    · rw [if_pos c]
      have ih := EqualStr_l0 (p ++ [x]) (q ++ [y]) a b (by simp [hp]) (by simpa using hab) (by simpa using hl)
      rw [← mid_snoc, ← mid_snoc] at ih
      exact Ev.step (fun k => (hst k).trans (if_pos c)) ih
    · rw [if_neg c]
      exact Ev.step (fun k => (hst k).trans (if_neg c)) (Ev.now _)
def eqSV (a b : List ByteArray) : Bool := if a.length = b.length then eqS a b else false
theorem EqualStr_ev {a b : List ByteArray} (hl : a.length ≤ 140737488351232) : Ev (fun k => slices_Equal_string.f k a b) (eqSV a b) := by
  unfold eqSV
  by_cases c : a.length = b.length
  · rw [if_pos c]
    refine Ev.congr (fun k => ?_) (EqualStr_l0 [] [] a b rfl c (by simpa using hl))
    unfold slices_Equal_string.f
    rw [if_pos (by omega)]
    rfl
  · rw [if_neg c]
    refine Ev.congr (fun k => ?_) (Ev.now _)
    unfold slices_Equal_string.f
    rw [if_neg (by omega)]
/-- Same, of the program and of the reference. -/
def samV (a : List ByteArray) (r : List S48) (b : List ByteArray) (s : List S48) : Bool :=
  if chkV a r = 0 ∧ chkV b s = 0 ∧ eqSV a b = true then eqRV (cln [] r) (cln [] s) else false
theorem Same_ev {a b : List ByteArray} {r s : List S48} (ha : StrsOk a) (hb : StrsOk b) (hla : a.length ≤ 140737488351232) (hlb : b.length ≤ 140737488351232) (hr : r.length ≤ 140737488351232) (hs : s.length ≤ 140737488351232) :
    Ev (fun k => capture_Same.f k a r b s) (samV a r b s) := by
  have hj : Ev (fun k => capture_Same.j0 k true a r b s) false := Ev.step (f := fun _ => some false) (fun k => by simp only [capture_Same.j0]; rfl) (Ev.now _)
  unfold samV
  refine Ev.bind (Check_ev ha hla hr) ?_
  by_cases c : chkV a r = 0
  · refine Ev.congr (fun k => if_pos c) (Ev.bind (Check_ev hb hlb hs) ?_)
    by_cases c1 : chkV b s = 0
    · refine Ev.congr (fun k => if_pos c1) (Ev.bind (EqualStr_ev hla) ?_)
      by_cases c2 : eqSV a b = true
      · have h := chk_0 c
        have h' := chk_0 c1
        rw [if_pos ⟨c, c1, c2⟩, c2]
        refine Ev.step (f := fun k => (capture_clean.f k r).bind fun t406 => ((capture_clean.f k s).bind fun t409 => ((slices_Equal_Run.f k t406 t409).bind fun t412 => (some t412)))) (fun k => ?_) (Ev.bind (clean_ev h.2.2.1 h.2.2.2 h.1) (Ev.bind (clean_ev h'.2.2.1 h'.2.2.2 h'.1) (Ev.bind (EqualRun_ev ?_) (Ev.now _))))
        · simp only [capture_Same.j0]
          rw [if_neg (by decide)]
        · have := cln_len r []
          simp only [List.length_nil] at this
          omega
      · rw [if_neg (fun h => c2 h.2.2), Bool.eq_false_iff.2 c2]
        exact hj
    · rw [if_neg (fun h => c1 h.2.1)]
      exact Ev.congr (fun k => if_neg c1) hj
  · rw [if_neg (fun h => c h.1)]
    exact Ev.congr (fun k => if_neg c) hj
theorem refSame_l1 : ∀ (p q a b : List S48), p.length = q.length → a.length = b.length → (p ++ a).length ≤ 140737488351232 →
    Ev (fun k => signalbenchref09_Same.l1 k (p ++ a) (q ++ b) (p.length : Int)) (eqR a b)
  | p, q, [], b, hp, hab, hl => by
    refine Ev.step (f := fun _ => some true) (fun k => ?_) (Ev.now _)
    simp only [signalbenchref09_Same.l1]
    rw [if_neg (by simp)]
  | p, q, x :: a, [], hp, hab, hl => by simp at hab
  | p, q, x :: a, y :: b, hp, hab, hl => by
    have hlt := mid_lt p a x
    have hlt2 := mid_lt q b y
    have hn : p.length ≤ 9223372036854775806 := by
      simp only [List.length_append, List.length_cons] at hl
      omega
    have e2 : rd_T48 (q ++ y :: b) (p.length : Int) = y := by
      rw [hp]
      exact rd_mid q b y
    have hst : ∀ k, signalbenchref09_Same.l1 (k + 1) (p ++ x :: a) (q ++ y :: b) (p.length : Int) = if (!((x.f0) == (y.f0)) || (!((x.f1) == (y.f1)))) = true then some false else signalbenchref09_Same.l1 k (p ++ x :: a) (q ++ y :: b) ((p ++ [x]).length : Int) := by
      intro k
      simp only [signalbenchref09_Same.l1]
      rw [rd_mid, e2, if_pos hlt, if_pos (by omega), if_pos (by rw [hp]; exact hlt2), succ_mid _ _ hn]
    unfold eqR
    by_cases c : x.f0 = y.f0 ∧ x.f1 = y.f1
    · rw [if_pos c]
      have ih := refSame_l1 (p ++ [x]) (q ++ [y]) a b (by simp [hp]) (by simpa using hab) (by simpa using hl)
      rw [← mid_snoc, ← mid_snoc] at ih
      exact Ev.step (fun k => (hst k).trans (if_neg (fun h => (rne_iff x y).1 h c))) ih
    · rw [if_neg c]
      exact Ev.step (fun k => (hst k).trans (if_pos ((rne_iff x y).2 c))) (Ev.now _)
theorem refSame_l0 (r s : List S48) (A B : List S48) (hA : Ev (fun k => signalbenchref09_Clean.f k r) A) (hB : Ev (fun k => signalbenchref09_Clean.f k s) B) (hlA : A.length ≤ 140737488351232) : ∀ (p q a b : List ByteArray), p.length = q.length → a.length = b.length → (p ++ a).length ≤ 140737488351232 →
    Ev (fun k => signalbenchref09_Same.l0 k (p.length : Int) (p ++ a) r (q ++ b) s) (if eqS a b = true then eqRV A B else false)
  | p, q, [], b, hp, hab, hl => by
    rw [show (if eqS [] b = true then eqRV A B else false) = eqRV A B from rfl]
    refine Ev.step (f := fun k => (signalbenchref09_Clean.f k r).bind fun t426 => ((signalbenchref09_Clean.f k s).bind fun t429 => (if (t426.length : Int) = (t429.length : Int) then (signalbenchref09_Same.l1 k t426 t429 0) else (some false)))) (fun k => ?_) (Ev.bind hA (Ev.bind hB ?_))
    · simp only [signalbenchref09_Same.l0]
      rw [if_neg (by simp)]
    · unfold eqRV
      by_cases c : A.length = B.length
      · rw [if_pos c]
        exact Ev.congr (fun k => if_pos (by omega)) (refSame_l1 [] [] A B rfl c (by simpa using hlA))
      · rw [if_neg c]
        exact Ev.congr (fun k => if_neg (by omega)) (Ev.now _)
  | p, q, x :: a, [], hp, hab, hl => by simp at hab
  | p, q, x :: a, y :: b, hp, hab, hl => by
    have hlt := mids_lt p a x
    have hlt2 := mids_lt q b y
    have hn : p.length ≤ 9223372036854775806 := by
      simp only [List.length_append, List.length_cons] at hl
      omega
    have e2 : rdOf ByteArray.empty (q ++ y :: b) (p.length : Int) = y := by
      rw [hp]
      exact rds_mid q b y
    have hst : ∀ k, signalbenchref09_Same.l0 (k + 1) (p.length : Int) (p ++ x :: a) r (q ++ y :: b) s = if x.toList = y.toList then signalbenchref09_Same.l0 k ((p ++ [x]).length : Int) (p ++ x :: a) r (q ++ y :: b) s else some false := by
      intro k
      simp only [signalbenchref09_Same.l0]
      rw [rds_mid, e2, if_pos hlt, if_pos (by omega), if_pos (by rw [hp]; exact hlt2), succ_mid _ _ hn]
    have e : (if eqS (x :: a) (y :: b) = true then eqRV A B else false) = if x.toList = y.toList then (if eqS a b = true then eqRV A B else false) else false := by
      by_cases c : x.toList = y.toList <;> simp [eqS, c]
    rw [e]
    by_cases c : x.toList = y.toList
    · rw [if_pos c]
      have ih := refSame_l0 r s A B hA hB hlA (p ++ [x]) (q ++ [y]) a b (by simp [hp]) (by simpa using hab) (by simpa using hl)
      rw [← mid_snoc, ← mid_snoc] at ih
      exact Ev.step (fun k => (hst k).trans (if_pos c)) ih
    · rw [if_neg c]
      exact Ev.step (fun k => (hst k).trans (if_neg c)) (Ev.now _)
theorem refSame_ev {a b : List ByteArray} {r s : List S48} (ha : StrsOk a) (hb : StrsOk b) (hla : a.length ≤ 140737488351232) (hlb : b.length ≤ 140737488351232) (hr : r.length ≤ 140737488351232) (hs : s.length ≤ 140737488351232) :
    Ev (fun k => signalbenchref09_Same.f k a r b s) (samV a r b s) := by
  have hj : Ev (fun k => signalbenchref09_Same.j0 k true a r b s) false := Ev.step (f := fun _ => some false) (fun k => by simp only [signalbenchref09_Same.j0]; rfl) (Ev.now _)
  unfold samV
  refine Ev.bind (refGood_ev ha hla hr) ?_
  by_cases c : chkV a r = 0
  · refine Ev.congr (fun k => if_pos (beq_iff_eq.2 c)) (Ev.bind (refGood_ev hb hlb hs) ?_)
    by_cases c1 : chkV b s = 0
    · refine Ev.congr (fun k => if_pos (beq_iff_eq.2 c1)) ?_
      by_cases c2 : a.length = b.length
      · have h := chk_0 c
        have h' := chk_0 c1
        have hn : (((a.length : Int) != (b.length : Int))) = false := bne_eq_false_iff_eq.2 (by omega)
        rw [hn]
        have e : (if chkV a r = 0 ∧ chkV b s = 0 ∧ eqSV a b = true then eqRV (cln [] r) (cln [] s) else false) = if eqS a b = true then eqRV (cln [] r) (cln [] s) else false := by
          unfold eqSV
          by_cases c3 : eqS a b = true
          · rw [if_pos c3, if_pos ⟨c, c1, by rw [if_pos c2]; exact c3⟩]
          · rw [if_neg c3, if_neg (fun h => c3 (by have := h.2.2; rwa [if_pos c2] at this))]
        rw [e]
        refine Ev.step (fun k => ?_) (refSame_l0 r s _ _ (refClean_ev h.2.2.1 h.2.2.2 h.1) (refClean_ev h'.2.2.1 h'.2.2.2 h'.1) ?_ [] [] a b rfl c2 (by simpa using hla))
        · simp only [signalbenchref09_Same.j0]
          rw [if_neg (by decide)]
          rfl
        · have := cln_len r []
          simp only [List.length_nil] at this
          omega
      · have hn : (((a.length : Int) != (b.length : Int))) = true := bne_iff_ne.2 (by omega)
        rw [hn, if_neg (fun h => by have := h.2.2; unfold eqSV at this; rw [if_neg c2] at this; cases this)]
        exact hj
    · rw [if_neg (fun h => c1 h.2.1)]
      exact Ev.congr (fun k => if_neg (fun h => c1 (beq_iff_eq.1 h))) hj
  · rw [if_neg (fun h => c h.1)]
    exact Ev.congr (fun k => if_neg (fun h => c (beq_iff_eq.1 h))) hj
theorem eqRV_symm (a b : List S48) : eqRV a b = eqRV b a := by
  unfold eqRV
  by_cases c : a.length = b.length
  · rw [if_pos c, if_pos c.symm, eqR_symm a b c]
  · rw [if_neg c, if_neg (fun h => c h.symm)]
theorem eqSV_symm (a b : List ByteArray) : eqSV a b = eqSV b a := by
  unfold eqSV
  by_cases c : a.length = b.length
  · rw [if_pos c, if_pos c.symm, eqS_symm a b c]
  · rw [if_neg c, if_neg (fun h => c h.symm)]
theorem samV_symm (a b : List ByteArray) (r s : List S48) : samV a r b s = samV b s a r := by
  unfold samV
  by_cases c : chkV a r = 0 ∧ chkV b s = 0 ∧ eqSV a b = true
  · rw [if_pos c, if_pos ⟨c.2.1, c.1, by rw [eqSV_symm]; exact c.2.2⟩, eqRV_symm]
  · rw [if_neg c, if_neg (fun h => c ⟨h.2.1, h.1, by rw [eqSV_symm]; exact h.2.2⟩)]
theorem samV_self (a : List ByteArray) (r : List S48) : samV a r a r = (chkV a r == 0) := by
  unfold samV
  by_cases c : chkV a r = 0
  · rw [if_pos ⟨c, c, by unfold eqSV; rw [if_pos rfl]; exact eqS_refl a⟩, beq_iff_eq.2 c]
    unfold eqRV
    rw [if_pos rfl]
    exact eqR_refl _
  · rw [if_neg (fun h => c h.1)]
    exact (beq_eq_false_iff_ne.2 c).symm
theorem CaptureSame_pure {a b : List ByteArray} {r s : List S48} (ha : StrsOk a) (hb : StrsOk b) : ∃ k, signalbenchlaw09_CaptureSame.f k a r b s = some true := by
  have hj : Ev (fun k => signalbenchlaw09_CaptureSame.j0 k true a r b s) true := Ev.step (f := fun _ => some true) (fun k => by simp only [signalbenchlaw09_CaptureSame.j0]; rfl) (Ev.now _)
  refine Ev.rounds (Ev.bind lives09_ev (Ev.congr (fun k => if_pos rfl) ?_))
  refine Ev.congr (f := fun k => if fewV a r = true then ((signalbenchlaw09_few.f b s).bind fun t438 => (signalbenchlaw09_CaptureSame.j0 k (!t438) a r b s)) else (signalbenchlaw09_CaptureSame.j0 k true a r b s)) (fun k => by rw [few09_eq a r, Option.bind_some]) ?_
  by_cases c : fewV a r = true
  · refine Ev.congr (fun k => (if_pos c).trans (by rw [few09_eq b s, Option.bind_some])) (?_ : Ev (fun k => signalbenchlaw09_CaptureSame.j0 k (!(fewV b s)) a r b s) true)
    by_cases c1 : fewV b s = true
    · have hf : a.length ≤ 100 ∧ r.length ≤ 2000 := of_decide_eq_true c
      have hf' : b.length ≤ 100 ∧ s.length ≤ 2000 := of_decide_eq_true c1
      have hla : a.length ≤ 140737488351232 := by omega
      have hlr : r.length ≤ 140737488351232 := by omega
      have hlb : b.length ≤ 140737488351232 := by omega
      have hls : s.length ≤ 140737488351232 := by omega
      have h1 := Same_ev ha hb hla hlb hlr hls
      have h2 := refSame_ev ha hb hla hlb hlr hls
      have h3 := Same_ev ha ha hla hla hlr hlr
      have h4 := Same_ev hb ha hlb hla hls hlr
      have h5 := Check_ev ha hla hlr
      rw [c1]
      refine Ev.step (f := fun k => (capture_Same.f k a r b s).bind fun t439 => ((signalbenchref09_Same.f k a r b s).bind fun t440 => (if (t439 == t440) = true then ((capture_Same.f k a r a r).bind fun t441 => ((capture_Check.f k a r).bind fun t442 => (if (t441 == (t442 == 0)) = true then ((capture_Same.f k b s a r).bind fun t443 => ((capture_Same.f k a r b s).bind fun t444 => (some (t443 == t444)))) else (some false)))) else (some false)))) (fun k => ?_) (Ev.bind h1 (Ev.bind h2 (Ev.congr (fun k => if_pos (beq_self_eq_true _)) (Ev.bind h3 (Ev.bind h5 (Ev.congr (fun k => if_pos (beq_iff_eq.2 (samV_self a r))) (Ev.bind h4 (Ev.bind h1 ?_))))))))
      · simp only [signalbenchlaw09_CaptureSame.j0]
        rw [if_neg (by decide)]
      · rw [samV_symm b a s r, beq_self_eq_true]
        exact Ev.now _
    · rw [Bool.eq_false_iff.2 c1]
      exact hj
  · exact Ev.congr (fun k => if_neg c) hj
end Go.Proofs.Yteafkdadpdofjaa
