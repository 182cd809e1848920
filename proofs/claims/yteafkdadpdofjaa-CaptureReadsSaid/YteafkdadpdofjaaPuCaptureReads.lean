/- The law CaptureReads as a plain statement on numbers and lists: with enough rounds it answers true; conditions: each number is one of its kind, no list or string is longer than its memory allows. -/
import Derived.Laws.BitsAllLaws
import Derived.WalkKit
import Derived.Test.YteafkdadpdofjaaWMore
import Derived.Laws.Strings
import Derived.Test.YteafkdadpdofjaaQx0
import Derived.Test.YteafkdadpdofjaaQx3
import Derived.Test.YteafkdadpdofjaaQx4
import Derived.Test.YteafkdadpdofjaaQx5
import Derived.Test.YteafkdadpdofjaaQx6
import Derived.Test.YteafkdadpdofjaaQx7
import Derived.Test.YteafkdadpdofjaaQx8
import Derived.Test.YteafkdadpdofjaaQx9
import Derived.Test.YteafkdadpdofjaaQx11
import Derived.Test.YteafkdadpdofjaaQx12
import Derived.Test.YteafkdadpdofjaaQx13
import Derived.Test.YteafkdadpdofjaaQx16
import Derived.Test.YteafkdadpdofjaaQx17
import Derived.Test.YteafkdadpdofjaaQx18
import Derived.Test.YteafkdadpdofjaaQx19
import Derived.Test.YteafkdadpdofjaaQx20
import Derived.Test.YteafkdadpdofjaaQx21
import Derived.Test.YteafkdadpdofjaaQx22
import Derived.Test.YteafkdadpdofjaaQx23
import Derived.Test.YteafkdadpdofjaaQx24
namespace Go.Proofs.Yteafkdadpdofjaa
open Go Go.RowKit Go.Proofs.YteafkdadpdofjaaW.PrintWords Go.Proofs.YteafkdadpdofjaaW.PrintLast Go.Proofs.Yteafkdadpdofjaa.Q
set_option linter.unusedVariables false
theorem w64 {x : Int} (h0 : -9223372036854775808 ≤ x) (h1 : x ≤ 9223372036854775807) : wrap64 x = x := by
 unfold wrap64
 omega
theorem succ_mid {α : Type} (pre : List α) (x : α) (h : pre.length ≤ 9223372036854775806) : wrap64 ((pre.length : Int) + 1) = ((pre ++ [x]).length : Int) := by
 rw [w64 (by omega) (by omega)]
 simp
theorem mid_snoc {α : Type} (pre post : List α) (x : α) : pre ++ x :: post = (pre ++ [x]) ++ post := by simp
def wd (c : Int) : Bool := if 97 ≤ c ∧ c ≤ 122 then true else if 48 ≤ c ∧ c ≤ 57 then true else if c = 95 then true else false
def wAll (s : ByteArray) : Nat → Nat → Bool
 | 0, _ => true
 | m + 1, i => if wd (bt s (i : Int)) = true then wAll s m (i + 1) else false
def nmOk (s : ByteArray) : Bool := if s.size = 0 then false else if 16 < s.size then false else if 97 ≤ bt s 0 ∧ bt s 0 ≤ 122 then wAll s s.size 0 else false
theorem w32 {x : Int} (h0 : 0 ≤ x) (h1 : x ≤ 255) : wrap32 x = x := by
 unfold wrap32
 omega
theorem nil_iff (s : ByteArray) : s.toList = ([] : List UInt8) ↔ s.size = 0 := by
 rw [ByteArray.toList_eq, ← List.length_eq_zero_iff, data_length]
theorem wd_1 {c : Int} (h : 97 ≤ c ∧ c ≤ 122) : wd c = true := by
 unfold wd
 rw [if_pos h]
theorem wd_2 {c : Int} (h : 48 ≤ c ∧ c ≤ 57) : wd c = true := by
 unfold wd
 rw [if_neg (by omega), if_pos h]
theorem wd_3 {c : Int} (h : c = 95) : wd c = true := by
 unfold wd
 rw [if_neg (by omega), if_neg (by omega), if_pos h]
theorem wd_0 {c : Int} (h : ¬ (97 ≤ c ∧ c ≤ 122)) (h1 : ¬ (48 ≤ c ∧ c ≤ 57)) (h2 : ¬ c = 95) : wd c = false := by
 unfold wd
 rw [if_neg h, if_neg h1, if_neg h2]
theorem lex_letter_eq (c : Int) : lex_letter.f c = some (decide (97 ≤ c ∧ c ≤ 122)) := by
 unfold lex_letter.f
 by_cases h : 97 ≤ c <;> simp [h]
theorem lex_word_eq (c : Int) : lex_word.f c = some (wd c) := by
 unfold lex_word.f lex_digit.f wd
 rw [lex_letter_eq]
 by_cases h : 97 ≤ c ∧ c ≤ 122
 ·simp [h]
 ·by_cases h1 : 48 ≤ c
  ·by_cases h2 : c ≤ 57
   ·simp [h, h1, h2]
   ·by_cases h3 : c = 95 <;> simp [h, h1, h2, h3]
  ·by_cases h3 : c = 95 <;> simp [h, h1, h3]
theorem lex_Name_l0 (s : ByteArray) (hs : s.size ≤ 140737488351232) : ∀ (m i : Nat), i + m = s.size → Ev (fun k => lex_Name.l0 k s (s.size : Int) (i : Int)) (wAll s m i)
 | 0, i, h => by
  refine Ev.step (f := fun _ => some true) (fun k => ?_) (Ev.now _)
  simp only [lex_Name.l0]
  rw [if_neg (by omega)]
 | m + 1, i, h => by
  have hb := bt_range s (i : Int)
  have hst : ∀ k, lex_Name.l0 (k + 1) s (s.size : Int) (i : Int) = if wd (bt s (i : Int)) = true then lex_Name.l0 k s (s.size : Int) ((i + 1 : Nat) : Int) else some false := by
   intro k
   simp only [lex_Name.l0]
   rw [if_pos (by omega), if_pos (by omega), if_pos (by omega), lex_word_eq, w32 hb.1 hb.2, Option.bind_some, w64 (by omega) (by omega)]
   rfl
  unfold wAll
  by_cases c : wd (bt s (i : Int)) = true
  ·rw [if_pos c]
   exact Ev.step (fun k => (hst k).trans (if_pos c)) (lex_Name_l0 s hs m (i + 1) (by omega))
  ·rw [if_neg c]
   exact Ev.step (fun k => (hst k).trans (if_neg c)) (Ev.now _)
theorem lex_Name_ev (s : ByteArray) (hs : s.size ≤ 140737488351232) : Ev (fun k => lex_Name.f k s) (nmOk s) := by
 have hb := bt_range s 0
 have hj : Ev (fun k => lex_Name.j0 k s true) false := Ev.step (f := fun _ => some false) (fun k => by simp only [lex_Name.j0]; rfl) (Ev.now _)
 unfold nmOk
 by_cases h0 : s.size = 0
 ·rw [if_pos h0]
  refine Ev.congr (fun k => ?_) hj
  unfold lex_Name.f
  rw [if_pos ((nil_iff s).2 h0)]
 ·rw [if_neg h0]
  have hn : ¬ s.toList = [] := fun h => h0 ((nil_iff s).1 h)
  by_cases h1 : 16 < s.size
  ·rw [if_pos h1]
   refine Ev.congr (fun k => ?_) hj
   unfold lex_Name.f
   rw [if_neg hn, if_pos (by omega)]
  ·rw [if_neg h1]
   have e : ∀ k, lex_Name.f k s = lex_Name.j0 k s (!(decide (97 ≤ bt s 0 ∧ bt s 0 ≤ 122))) := by
    intro k
    unfold lex_Name.f
    rw [if_neg hn, if_neg (by omega), if_pos (by omega), lex_letter_eq, w32 hb.1 hb.2]
    rfl
   refine Ev.congr e ?_
   by_cases h2 : 97 ≤ bt s 0 ∧ bt s 0 ≤ 122
   ·rw [if_pos h2, decide_eq_true h2]
    refine Ev.step (fun k => ?_) (lex_Name_l0 s hs s.size 0 (by omega))
    simp only [lex_Name.j0]
    rw [if_neg (by decide)]
    rfl
   ·rw [if_neg h2, decide_eq_false h2]
    exact hj
theorem ref_name_step (s : ByteArray) (hs : s.size ≤ 140737488351232) (i : Nat) (h : i < s.size) (k : Nat) :
  rf_name.l0 (k + 1) s (i : Int) = if wd (bt s (i : Int)) = true then rf_name.l0 k s ((i + 1 : Nat) : Int) else some false := by
 have e : wrap64 ((i : Int) + 1) = ((i + 1 : Nat) : Int) := by
  rw [w64 (by omega) (by omega)]
  rfl
 simp only [rf_name.l0]
 rw [if_pos (by omega), if_pos (by omega), e]
 generalize bt s (i : Int) = c
 by_cases h1 : c ≥ 97
 ·by_cases h2 : c ≤ 122
  ·rw [if_pos h1, if_pos (by omega), if_pos h2, wd_1 ⟨h1, h2⟩, if_pos rfl]
  ·rw [if_pos h1, if_pos (by omega), if_neg h2, if_neg (by omega), if_neg (by omega), wd_0 (by omega) (by omega) (by omega), if_neg (by decide)]
 ·rw [if_neg h1]
  by_cases h3 : c ≥ 48
  ·rw [if_pos h3]
   by_cases h4 : c ≤ 57
   ·rw [if_pos h4, wd_2 ⟨h3, h4⟩, if_pos rfl]
   ·rw [if_neg h4]
    by_cases h5 : c = 95
    ·rw [if_pos h5, wd_3 h5, if_pos rfl]
    ·rw [if_neg h5, wd_0 (by omega) (by omega) h5, if_neg (by decide)]
  ·rw [if_neg h3]
   by_cases h5 : c = 95
   ·rw [if_pos h5, wd_3 h5, if_pos rfl]
   ·rw [if_neg h5, wd_0 (by omega) (by omega) h5, if_neg (by decide)]
theorem ref_name_l0 (s : ByteArray) (hs : s.size ≤ 140737488351232) : ∀ (m i : Nat), i + m = s.size → Ev (fun k => rf_name.l0 k s (i : Int)) (wAll s m i)
 | 0, i, h => by
  refine Ev.step (f := fun _ => some true) (fun k => ?_) (Ev.now _)
  simp only [rf_name.l0]
  rw [if_neg (by omega)]
 | m + 1, i, h => by
  have hst := ref_name_step s hs i (by omega)
  unfold wAll
  by_cases c : wd (bt s (i : Int)) = true
  ·rw [if_pos c]
   exact Ev.step (fun k => (hst k).trans (if_pos c)) (ref_name_l0 s hs m (i + 1) (by omega))
  ·rw [if_neg c]
   exact Ev.step (fun k => (hst k).trans (if_neg c)) (Ev.now _)
theorem ref_name_ev (s : ByteArray) (hs : s.size ≤ 140737488351232) : Ev (fun k => rf_name.f k s) (nmOk s) := by
 have hj : Ev (fun k => rf_name.j0 k s true) false := Ev.step (f := fun _ => some false) (fun k => by simp only [rf_name.j0]; rfl) (Ev.now _)
 unfold nmOk
 by_cases h0 : s.size = 0
 ·rw [if_pos h0]
  refine Ev.congr (fun k => ?_) hj
  unfold rf_name.f
  rw [if_pos ((nil_iff s).2 h0)]
 ·rw [if_neg h0]
  have hn : ¬ s.toList = [] := fun h => h0 ((nil_iff s).1 h)
  by_cases h1 : 16 < s.size
  ·rw [if_pos h1]
   refine Ev.congr (fun k => ?_) hj
   unfold rf_name.f
   rw [if_neg hn, if_pos (by omega)]
  ·rw [if_neg h1]
   by_cases h3 : bt s 0 < 97
   ·rw [if_neg (by omega)]
    refine Ev.congr (fun k => ?_) hj
    unfold rf_name.f
    rw [if_neg hn, if_neg (by omega), if_pos (by omega), if_pos h3]
   ·have e : ∀ k, rf_name.f k s = rf_name.j0 k s (decide (bt s 0 > 122)) := by
     intro k
     unfold rf_name.f
     rw [if_neg hn, if_neg (by omega), if_pos (by omega), if_neg h3]
    refine Ev.congr e ?_
    by_cases h2 : bt s 0 > 122
    ·rw [if_neg (by omega), decide_eq_true h2]
     exact hj
    ·rw [if_pos (by omega), decide_eq_false h2]
     refine Ev.step (fun k => ?_) (ref_name_l0 s hs s.size 0 (by omega))
     simp only [rf_name.j0]
     rw [if_neg (by decide)]
     rfl
def StrsOk (l : List ByteArray) : Prop := ∀ s ∈ l, s.size ≤ 140737488351232
def nmA : List ByteArray → Bool
 | [] => true
 | s :: l => if nmOk s = true then nmA l else false
theorem rds_mid (pre post : List ByteArray) (x : ByteArray) : rdOf ByteArray.empty (pre ++ x :: post) (pre.length : Int) = x := by simp [rdOf, List.getD]
theorem mids_lt (pre post : List ByteArray) (x : ByteArray) : (pre.length : Int) < ((pre ++ x :: post).length : Int) := by
 simp only [List.length_append, List.length_cons]
 omega
/-- The first place of a name, or -1. -/
def ixS (s : ByteArray) : Nat → List ByteArray → Int
 | _, [] => -1
 | n, t :: l => if s.toList = t.toList then (n : Int) else ixS s (n + 1) l
theorem Index_l0 (s : ByteArray) : ∀ (post pre : List ByteArray), (pre ++ post).length ≤ 140737488351232 →
  Ev (fun k => slices_Index_string.l0 k (pre ++ post) s ((pre ++ post).length : Int) (pre.length : Int)) (ixS s pre.length post)
 | [], pre, hl => by
  refine Ev.step (f := fun _ => some (-1)) (fun k => ?_) (Ev.now _)
  simp only [slices_Index_string.l0]
  rw [if_neg (by simp)]
 | x :: post, pre, hl => by
  have hlt := mids_lt pre post x
  have hn : pre.length ≤ 9223372036854775806 := by
   simp only [List.length_append, List.length_cons] at hl
   omega
  have hst : ∀ k, slices_Index_string.l0 (k + 1) (pre ++ x :: post) s ((pre ++ x :: post).length : Int) (pre.length : Int) = if s.toList = x.toList then some (pre.length : Int) else slices_Index_string.l0 k (pre ++ x :: post) s ((pre ++ x :: post).length : Int) ((pre ++ [x]).length : Int) := by
   intro k
   simp only [slices_Index_string.l0]
   rw [rds_mid, if_pos hlt, if_pos (by omega), if_pos hlt, succ_mid _ _ hn]
  unfold ixS
  by_cases c : s.toList = x.toList
  ·rw [if_pos c]
   exact Ev.step (fun k => (hst k).trans (if_pos c)) (Ev.now _)
  ·rw [if_neg c]
   have ih := Index_l0 s post (pre ++ [x]) (by simpa using hl)
   rw [← mid_snoc] at ih
   have e : (pre ++ [x]).length = pre.length + 1 := by simp
   rw [e] at ih
   refine Ev.step (fun k => (hst k).trans (if_neg c)) ?_
   rw [e]
   exact ih
theorem Index_ev (l : List ByteArray) (s : ByteArray) (hl : l.length ≤ 140737488351232) : Ev (fun k => slices_Index_string.f k l s) (ixS s 0 l) := Ev.congr (fun k => rfl) (Index_l0 s l [] (by simpa using hl))
theorem Contains_ev (l : List ByteArray) (s : ByteArray) (hl : l.length ≤ 140737488351232) : Ev (fun k => slices_Contains_string.f k l s) (decide (ixS s 0 l ≥ 0)) := Ev.bind (Index_ev l s hl) (Ev.now _)
def dupS : List ByteArray → List ByteArray → Bool
 | _, [] => false
 | pre, x :: post => if ixS x 0 pre ≥ 0 then true else dupS (pre ++ [x]) post
def nmsV (l : List ByteArray) : Int := if 16 < l.length then 6 else if l.length = 0 then 1 else if nmA l = true then (if dupS [] l = true then 9 else 0) else 4
theorem checkNames_l1 : ∀ (post pre : List ByteArray), (pre ++ post).length ≤ 140737488351232 →
  Ev (fun k => capture_checkNames.l1 k (pre ++ post) (pre ++ post) ((pre ++ post).length : Int) (pre.length : Int)) (if dupS pre post = true then 9 else 0)
 | [], pre, hl => by
  refine Ev.step (f := fun _ => some 0) (fun k => ?_) ?_
  ·simp only [capture_checkNames.l1]
   rw [if_neg (by simp)]
  ·rw [show (if dupS pre [] = true then (9 : Int) else 0) = 0 from rfl]
   exact Ev.now _
 | x :: post, pre, hl => by
  have hlt := mids_lt pre post x
  have hn : pre.length ≤ 9223372036854775806 := by
   simp only [List.length_append, List.length_cons] at hl
   omega
  have hp : pre.length ≤ 140737488351232 := by
   simp only [List.length_append, List.length_cons] at hl
   omega
  have hst : ∀ k, capture_checkNames.l1 (k + 1) (pre ++ x :: post) (pre ++ x :: post) ((pre ++ x :: post).length : Int) (pre.length : Int) = (slices_Contains_string.f k pre x).bind fun t111 => (if t111 = true then (some 9) else (capture_checkNames.l1 k (pre ++ x :: post) (pre ++ x :: post) ((pre ++ x :: post).length : Int) ((pre ++ [x]).length : Int))) := by
   intro k
   simp only [capture_checkNames.l1]
   rw [rds_mid, if_pos hlt, if_pos (by omega), if_pos hlt, if_pos (by omega), succ_mid _ _ hn, Int.toNat_natCast, List.take_left' rfl]
  refine Ev.step hst (Ev.bind (Contains_ev pre x hp) ?_)
  unfold dupS
  by_cases c : ixS x 0 pre ≥ 0
  ·rw [if_pos c, decide_eq_true c]
   exact Ev.congr (fun k => if_pos rfl) (Ev.now _)
  ·rw [if_neg c, decide_eq_false c]
   have ih := checkNames_l1 post (pre ++ [x]) (by simpa using hl)
   rw [← mid_snoc] at ih
   exact Ev.congr (fun k => if_neg (by decide)) ih
theorem checkNames_l0 : ∀ (post pre : List ByteArray) (R : Int), StrsOk post → (pre ++ post).length ≤ 140737488351232 → Ev (fun k => capture_checkNames.l1 k (pre ++ post) (pre ++ post) ((pre ++ post).length : Int) 0) R →
  Ev (fun k => capture_checkNames.l0 k (pre ++ post) (pre ++ post) ((pre ++ post).length : Int) (pre.length : Int)) (if nmA post = true then R else 4)
 | [], pre, R, hs, hl, hR => by
  refine Ev.step (fun k => ?_) (Ev.congr (fun k => rfl) hR)
  simp only [capture_checkNames.l0]
  rw [if_neg (by simp)]
 | x :: post, pre, R, hs, hl, hR => by
  have hlt := mids_lt pre post x
  have hn : pre.length ≤ 9223372036854775806 := by
   simp only [List.length_append, List.length_cons] at hl
   omega
  have hst : ∀ k, capture_checkNames.l0 (k + 1) (pre ++ x :: post) (pre ++ x :: post) ((pre ++ x :: post).length : Int) (pre.length : Int) = (lex_Name.f k x).bind fun t108 => (if t108 = true then (capture_checkNames.l0 k (pre ++ x :: post) (pre ++ x :: post) ((pre ++ x :: post).length : Int) ((pre ++ [x]).length : Int)) else (some 4)) := by
   intro k
   simp only [capture_checkNames.l0]
   rw [rds_mid, if_pos hlt, if_pos (by omega), if_pos hlt, succ_mid _ _ hn]
  refine Ev.step hst (Ev.bind (lex_Name_ev x (hs x (by simp))) ?_)
  unfold nmA
  by_cases c : nmOk x = true
  ·rw [if_pos c, c]
   have ih := checkNames_l0 post (pre ++ [x]) R (fun y hy => hs y (by simp [hy])) (by simpa using hl) (by rw [← mid_snoc]; exact hR)
   rw [← mid_snoc] at ih
   exact Ev.congr (fun k => if_pos rfl) ih
  ·rw [if_neg c, Bool.eq_false_iff.2 c]
   exact Ev.congr (fun k => if_neg (by decide)) (Ev.now _)
theorem checkNames_ev {l : List ByteArray} (hs : StrsOk l) (hl : l.length ≤ 140737488351232) (h16 : l.length ≤ 16) : Ev (fun k => capture_checkNames.f k l) (nmsV l) := by
 unfold nmsV
 rw [if_neg (by omega)]
 by_cases c : l.length = 0
 ·rw [if_pos c]
  refine Ev.congr (fun k => ?_) (Ev.now _)
  unfold capture_checkNames.f
  rw [if_pos (by omega)]
 ·rw [if_neg c]
  refine Ev.congr (fun k => ?_) (checkNames_l0 l [] _ hs (by simpa using hl) (checkNames_l1 l [] (by simpa using hl)))
  unfold capture_checkNames.f
  rw [if_neg (by omega)]
  rfl
theorem refnames_l2 (x : ByteArray) (post pre : List ByteArray) (R : Int) (hl : (pre ++ x :: post).length ≤ 140737488351232) (hR : Ev (fun k => rf_names.l1 k (pre ++ x :: post) ((pre ++ [x]).length : Int)) R) :
  ∀ (p q : List ByteArray), pre = q ++ p → Ev (fun k => rf_names.l2 k (pre ++ x :: post) (pre.length : Int) (q.length : Int)) (if ixS x q.length p ≥ 0 then 9 else R)
 | [], q, e => by
  have e1 : pre.length = q.length := by rw [e]; simp
  have hn : pre.length ≤ 9223372036854775806 := by
   simp only [List.length_append, List.length_cons] at hl
   omega
  rw [show (if ixS x q.length [] ≥ 0 then (9 : Int) else R) = R from if_neg (by show ¬ ((-1 : Int) ≥ 0); omega)]
  refine Ev.step (fun k => ?_) hR
  simp only [rf_names.l2]
  rw [if_neg (by omega), succ_mid _ _ hn]
 | t :: p, q, e => by
  have e1 : pre.length = q.length + (p.length + 1) := by rw [e]; simp
  have hlt := mids_lt pre post x
  have e2 : rdOf ByteArray.empty (pre ++ x :: post) (q.length : Int) = t := by
   rw [e, List.append_assoc]
   exact rds_mid q (p ++ x :: post) t
  have hn : q.length ≤ 9223372036854775806 := by
   simp only [List.length_append, List.length_cons] at hl
   omega
  have hst : ∀ k, rf_names.l2 (k + 1) (pre ++ x :: post) (pre.length : Int) (q.length : Int) = if x.toList = t.toList then some 9 else rf_names.l2 k (pre ++ x :: post) (pre.length : Int) ((q ++ [t]).length : Int) := by
   intro k
   simp only [rf_names.l2]
   rw [rds_mid, e2, if_pos (by omega), if_pos (by omega), if_pos hlt, if_pos (by omega), if_pos (by omega), succ_mid _ _ hn]
  unfold ixS
  by_cases c : x.toList = t.toList
  ·rw [if_pos c, if_pos (by omega)]
   exact Ev.step (fun k => (hst k).trans (if_pos c)) (Ev.now _)
  ·rw [if_neg c]
   have ih := refnames_l2 x post pre R hl hR p (q ++ [t]) (by rw [e, mid_snoc])
   have e3 : (q ++ [t]).length = q.length + 1 := by simp
   rw [e3] at ih
   refine Ev.step (fun k => (hst k).trans (if_neg c)) ?_
   rw [e3]
   exact ih
theorem refnames_l1 : ∀ (post pre : List ByteArray), (pre ++ post).length ≤ 140737488351232 →
  Ev (fun k => rf_names.l1 k (pre ++ post) (pre.length : Int)) (if dupS pre post = true then 9 else 0)
 | [], pre, hl => by
  refine Ev.step (f := fun _ => some 0) (fun k => ?_) ?_
  ·simp only [rf_names.l1]
   rw [if_neg (by simp)]
  ·rw [show (if dupS pre [] = true then (9 : Int) else 0) = 0 from rfl]
   exact Ev.now _
 | x :: post, pre, hl => by
  have hlt := mids_lt pre post x
  have ih := refnames_l1 post (pre ++ [x]) (by simpa using hl)
  rw [← mid_snoc] at ih
  have h2 := refnames_l2 x post pre _ hl ih pre [] rfl
  have e : (if dupS pre (x :: post) = true then (9 : Int) else 0) = if ixS x ([] : List ByteArray).length pre ≥ 0 then 9 else if dupS (pre ++ [x]) post = true then 9 else 0 := by
   show (if (if ixS x 0 pre ≥ 0 then true else dupS (pre ++ [x]) post) = true then (9 : Int) else 0) = if ixS x 0 pre ≥ 0 then 9 else _
   by_cases c : ixS x 0 pre ≥ 0
   ·rw [if_pos c, if_pos c, if_pos rfl]
   ·rw [if_neg c, if_neg c]
  rw [e]
  refine Ev.step (fun k => ?_) h2
  simp only [rf_names.l1]
  rw [if_pos hlt]
  rfl
theorem refnames_l0 : ∀ (post pre : List ByteArray) (R : Int), StrsOk post → (pre ++ post).length ≤ 140737488351232 → Ev (fun k => rf_names.l1 k (pre ++ post) 0) R →
  Ev (fun k => rf_names.l0 k (pre ++ post) (pre.length : Int)) (if nmA post = true then R else 4)
 | [], pre, R, hs, hl, hR => by
  refine Ev.step (fun k => ?_) (Ev.congr (fun k => rfl) hR)
  simp only [rf_names.l0]
  rw [if_neg (by simp)]
 | x :: post, pre, R, hs, hl, hR => by
  have hlt := mids_lt pre post x
  have hn : pre.length ≤ 9223372036854775806 := by
   simp only [List.length_append, List.length_cons] at hl
   omega
  have hst : ∀ k, rf_names.l0 (k + 1) (pre ++ x :: post) (pre.length : Int) = (rf_name.f k x).bind fun t108 => (if t108 = true then (rf_names.l0 k (pre ++ x :: post) ((pre ++ [x]).length : Int)) else (some 4)) := by
   intro k
   simp only [rf_names.l0]
   rw [rds_mid, if_pos hlt, if_pos (by omega), succ_mid _ _ hn]
  refine Ev.step hst (Ev.bind (ref_name_ev x (hs x (by simp))) ?_)
  unfold nmA
  by_cases c : nmOk x = true
  ·rw [if_pos c, c]
   have ih := refnames_l0 post (pre ++ [x]) R (fun y hy => hs y (by simp [hy])) (by simpa using hl) (by rw [← mid_snoc]; exact hR)
   rw [← mid_snoc] at ih
   exact Ev.congr (fun k => if_pos rfl) ih
  ·rw [if_neg c, Bool.eq_false_iff.2 c]
   exact Ev.congr (fun k => if_neg (by decide)) (Ev.now _)
theorem refnames_ev {l : List ByteArray} (hs : StrsOk l) (hl : l.length ≤ 140737488351232) : Ev (fun k => rf_names.f k l) (nmsV l) := by
 unfold nmsV
 by_cases h : 16 < l.length
 ·rw [if_pos h]
  refine Ev.congr (fun k => ?_) (Ev.now _)
  unfold rf_names.f
  rw [if_pos (by omega)]
 ·rw [if_neg h]
  by_cases c : l.length = 0
  ·rw [if_pos c]
   refine Ev.congr (fun k => ?_) (Ev.now _)
   unfold rf_names.f
   rw [if_neg (by omega), if_pos (by omega)]
  ·rw [if_neg c]
   refine Ev.congr (fun k => ?_) (refnames_l0 l [] _ hs (by simpa using hl) (refnames_l1 l [] (by simpa using hl)))
   unfold rf_names.f
   rw [if_neg (by omega), if_neg (by omega)]
   rfl
theorem nmsV_0 {l : List ByteArray} (h : nmsV l = 0) : 1 ≤ l.length ∧ l.length ≤ 16 := by
 unfold nmsV at h
 by_cases c : 16 < l.length
 ·rw [if_pos c] at h
  omega
 ·rw [if_neg c] at h
  by_cases c1 : l.length = 0
  ·rw [if_pos c1] at h
   omega
  ·omega
def sm : List S48 → Int
 | [] => 0
 | x :: l => x.f1 + sm l
/-- Levels from 0 to m, and at least one tick each. -/
def RunsM (m : Int) (l : List S48) : Prop := ∀ x ∈ l, 0 ≤ x.f0 ∧ x.f0 ≤ m ∧ 1 ≤ x.f1
def rOk (m : Int) : Int → List S48 → Bool
 | left, [] => true
 | left, x :: l => if 0 ≤ x.f0 ∧ x.f0 ≤ m ∧ 1 ≤ x.f1 ∧ x.f1 ≤ left then rOk m (left - x.f1) l else false
theorem rd_mid (pre post : List S48) (x : S48) : rd_T48 (pre ++ x :: post) (pre.length : Int) = x := by simp [rd_T48, List.getD]
theorem mid_lt (pre post : List S48) (x : S48) : (pre.length : Int) < ((pre ++ x :: post).length : Int) := by
 simp only [List.length_append, List.length_cons]
 omega
theorem RunsM.cons {m : Int} {x : S48} {l : List S48} (h : RunsM m (x :: l)) : (0 ≤ x.f0 ∧ x.f0 ≤ m ∧ 1 ≤ x.f1) ∧ RunsM m l := ⟨h x (by simp), fun y hy => h y (by simp [hy])⟩
theorem smM_nonneg {m : Int} : ∀ {l : List S48}, RunsM m l → 0 ≤ sm l
 | [], _ => Int.le_refl _
 | x :: l, h => by
  have h1 := h.cons
  have h2 := smM_nonneg h1.2
  simp only [sm]
  omega
theorem sm_append : ∀ (a b : List S48), sm (a ++ b) = sm a + sm b
 | [], b => by simp [sm]
 | x :: a, b => by
  have := sm_append a b
  simp only [List.cons_append, sm]
  omega
theorem rOk_iff {m : Int} : ∀ {l : List S48} {left : Int}, 0 ≤ left → (rOk m left l = true ↔ RunsM m l ∧ sm l ≤ left)
 | [], left, h => by simp [rOk, RunsM, sm, h]
 | x :: l, left, h => by
  unfold rOk
  by_cases c : 0 ≤ x.f0 ∧ x.f0 ≤ m ∧ 1 ≤ x.f1 ∧ x.f1 ≤ left
  ·rw [if_pos c, rOk_iff (l := l) (by omega)]
   simp only [RunsM, sm, List.mem_cons, forall_eq_or_imp]
   constructor
   ·rintro ⟨h1, h2⟩
    exact ⟨⟨⟨c.1, c.2.1, c.2.2.1⟩, h1⟩, by omega⟩
   ·rintro ⟨⟨h1, h2⟩, h3⟩
    exact ⟨h2, by omega⟩
  ·rw [if_neg c]
   simp only [Bool.false_eq_true, false_iff]
   rintro ⟨h1, h2⟩
   have h3 := h1.cons
   have h4 := smM_nonneg h3.2
   simp only [sm] at h2
   exact c ⟨h3.1.1, h3.1.2.1, h3.1.2.2, by omega⟩
def mk (l : List ByteArray) : Int := wrap64 ((shl .i64 1 (l.length : Int)) - 1)
def chkV (l : List ByteArray) (r : List S48) : Int := if 262144 < r.length then 6 else if nmsV l = 0 then (if rOk (mk l) 1099511627776 r = true then 0 else 2) else nmsV l
theorem chk_0 {l : List ByteArray} {r : List S48} (h : chkV l r = 0) : r.length ≤ 262144 ∧ nmsV l = 0 ∧ RunsM (mk l) r ∧ sm r ≤ 1099511627776 := by
 unfold chkV at h
 by_cases c : 262144 < r.length
 ·rw [if_pos c] at h
  omega
 ·rw [if_neg c] at h
  by_cases c1 : nmsV l = 0
  ·rw [if_pos c1] at h
   by_cases c2 : rOk (mk l) 1099511627776 r = true
   ·exact ⟨by omega, c1, (rOk_iff (by omega)).1 c2⟩
   ·rw [if_neg c2] at h
    omega
  ·rw [if_neg c1] at h
   exact absurd h c1
theorem Check_l0 (m : Int) : ∀ (post pre : List S48) (left : Int), 0 ≤ left → left ≤ 1099511627776 → (pre ++ post).length ≤ 140737488351232 →
  Ev (fun k => capture_Check.l0 k m left (pre ++ post) ((pre ++ post).length : Int) (pre.length : Int)) (if rOk m left post = true then 0 else 2)
 | [], pre, left, h0, h1, hl => by
  rw [show (if rOk m left [] = true then (0 : Int) else 2) = 0 from rfl]
  refine Ev.step (f := fun _ => some 0) (fun k => ?_) (Ev.now _)
  simp only [capture_Check.l0]
  rw [if_neg (by simp)]
 | x :: post, pre, left, h0, h1, hl => by
  have hlt := mid_lt pre post x
  have hn : pre.length ≤ 9223372036854775806 := by
   simp only [List.length_append, List.length_cons] at hl
   omega
  unfold rOk
  by_cases c : 0 ≤ x.f0 ∧ x.f0 ≤ m ∧ 1 ≤ x.f1 ∧ x.f1 ≤ left
  ·have ih := Check_l0 m post (pre ++ [x]) (left - x.f1) (by omega) (by omega) (by simpa using hl)
   rw [← mid_snoc] at ih
   rw [if_pos c]
   refine Ev.step (fun k => ?_) ih
   simp only [capture_Check.l0]
   rw [rd_mid, if_pos hlt, if_pos (by omega), if_pos hlt, if_neg (by omega), if_neg (by omega), if_neg (by omega), if_neg (by omega), w64 (by omega) (by omega), succ_mid _ _ hn]
  ·rw [if_neg c, show (if false = true then (0 : Int) else 2) = 2 from rfl]
   refine Ev.step (f := fun _ => some 2) (fun k => ?_) (Ev.now _)
   simp only [capture_Check.l0]
   rw [rd_mid, if_pos hlt, if_pos (by omega), if_pos hlt]
   by_cases c1 : x.f0 < 0
   ·rw [if_pos c1]
   ·rw [if_neg c1]
    by_cases c2 : x.f0 > m
    ·rw [if_pos c2]
    ·rw [if_neg c2]
     by_cases c3 : x.f1 < 1
     ·rw [if_pos c3]
     ·rw [if_neg c3, if_pos (by omega)]
theorem Check_ev {l : List ByteArray} {r : List S48} (hs : StrsOk l) (hl : l.length ≤ 140737488351232) (hr : r.length ≤ 140737488351232) : Ev (fun k => capture_Check.f k l r) (chkV l r) := by
 have hj : Ev (fun k => capture_Check.j0 k true l r) 6 := Ev.step (f := fun _ => some 6) (fun k => by simp only [capture_Check.j0]; rfl) (Ev.now _)
 by_cases c : 16 < l.length
 ·have e : chkV l r = 6 := by
   have e1 : nmsV l = 6 := by
    unfold nmsV
    rw [if_pos c]
   unfold chkV
   rw [e1]
   by_cases c1 : 262144 < r.length
   ·rw [if_pos c1]
   ·rw [if_neg c1]
    rfl
  rw [e]
  refine Ev.congr (fun k => ?_) hj
  unfold capture_Check.f
  rw [if_pos (by omega)]
 ·have e : ∀ k, capture_Check.f k l r = capture_Check.j0 k (decide ((r.length : Int) > 262144)) l r := by
   intro k
   unfold capture_Check.f
   rw [if_neg (by omega)]
  refine Ev.congr e ?_
  unfold chkV
  by_cases c1 : 262144 < r.length
  ·rw [if_pos c1, decide_eq_true (by omega)]
   exact hj
  ·rw [if_neg c1, decide_eq_false (by omega)]
   refine Ev.step (f := fun k => (capture_checkNames.f k l).bind fun t113 => (if t113 = 0 then (capture_Check.l0 k (mk l) 1099511627776 r (r.length : Int) 0) else (some t113))) (fun k => ?_) (Ev.bind (checkNames_ev hs hl (by omega)) ?_)
   ·simp only [capture_Check.j0]
    rw [if_neg (by decide)]
    rfl
   ·by_cases c2 : nmsV l = 0
    ·rw [if_pos c2]
     exact Ev.congr (fun k => if_pos c2) (Check_l0 (mk l) r [] 1099511627776 (by omega) (by omega) (by simpa using hr))
    ·rw [if_neg c2]
     exact Ev.congr (fun k => if_neg c2) (Ev.now _)
theorem refruns_l0 (m : Int) : ∀ (post pre : List S48) (left : Int), 0 ≤ left → left ≤ 1099511627776 → (pre ++ post).length ≤ 140737488351232 →
  Ev (fun k => rf_runs.l0 k (pre ++ post) m left (pre.length : Int)) (rOk m left post)
 | [], pre, left, h0, h1, hl => by
  refine Ev.step (f := fun _ => some true) (fun k => ?_) (Ev.now _)
  simp only [rf_runs.l0]
  rw [if_neg (by simp)]
 | x :: post, pre, left, h0, h1, hl => by
  have hlt := mid_lt pre post x
  have hn : pre.length ≤ 9223372036854775806 := by
   simp only [List.length_append, List.length_cons] at hl
   omega
  unfold rOk
  by_cases c : 0 ≤ x.f0 ∧ x.f0 ≤ m ∧ 1 ≤ x.f1 ∧ x.f1 ≤ left
  ·have ih := refruns_l0 m post (pre ++ [x]) (left - x.f1) (by omega) (by omega) (by simpa using hl)
   rw [← mid_snoc] at ih
   rw [if_pos c]
   refine Ev.step (fun k => ?_) ih
   simp only [rf_runs.l0]
   rw [rd_mid, if_pos hlt, if_pos (by omega), if_neg (by omega), if_neg (by omega), if_neg (by omega), if_neg (by omega), w64 (by omega) (by omega), succ_mid _ _ hn]
  ·rw [if_neg c]
   refine Ev.step (f := fun _ => some false) (fun k => ?_) (Ev.now _)
   simp only [rf_runs.l0]
   rw [rd_mid, if_pos hlt, if_pos (by omega)]
   by_cases c1 : x.f0 < 0
   ·rw [if_pos c1]
   ·rw [if_neg c1]
    by_cases c2 : x.f0 > m
    ·rw [if_pos c2]
    ·rw [if_neg c2]
     by_cases c3 : x.f1 < 1
     ·rw [if_pos c3]
     ·rw [if_neg c3, if_pos (by omega)]
theorem refruns_ev (m : Int) {r : List S48} (hr : r.length ≤ 140737488351232) : Ev (fun k => rf_runs.f k r m) (rOk m 1099511627776 r) :=
 Ev.congr (fun k => rfl) (refruns_l0 m r [] 1099511627776 (by omega) (by omega) (by simpa using hr))
theorem refCheck_ev {l : List ByteArray} {r : List S48} (hs : StrsOk l) (hl : l.length ≤ 140737488351232) (hr : r.length ≤ 140737488351232) : Ev (fun k => rf_Check.f k l r) (chkV l r) := by
 unfold chkV
 by_cases c1 : 262144 < r.length
 ·rw [if_pos c1]
  refine Ev.congr (fun k => ?_) (Ev.now _)
  unfold rf_Check.f
  rw [if_pos (by omega)]
 ·rw [if_neg c1]
  refine Ev.congr (f := fun k => (rf_names.f k l).bind fun t216 => (if t216 = 0 then ((rf_runs.f k r (mk l)).bind fun t217 => (if t217 = true then (some 0) else (some 2))) else (some t216))) (fun k => ?_) (Ev.bind (refnames_ev hs hl) ?_)
  ·unfold rf_Check.f
   rw [if_neg (by omega)]
   rfl
  ·by_cases c2 : nmsV l = 0
   ·rw [if_pos c2]
    refine Ev.congr (fun k => if_pos c2) (Ev.bind (refruns_ev (mk l) hr) ?_)
    by_cases c3 : rOk (mk l) 1099511627776 r = true
    ·simp only [if_pos c3]
     exact Ev.now _
    ·simp only [if_neg c3]
     exact Ev.now _
   ·rw [if_neg c2]
    exact Ev.congr (fun k => if_neg c2) (Ev.now _)
theorem refGood_ev {l : List ByteArray} {r : List S48} (hs : StrsOk l) (hl : l.length ≤ 140737488351232) (hr : r.length ≤ 140737488351232) : Ev (fun k => rf_Good.f k l r) (chkV l r == 0) :=
 Ev.bind (refCheck_ev hs hl hr) (Ev.now _)
theorem long_l0 {m : Int} : ∀ (post pre : List S48) (s : Int), 0 ≤ s → s + sm post ≤ 4611686018427387904 → RunsM m post → (pre ++ post).length ≤ 140737488351232 →
  Ev (fun k => capture_long.l0 k s (pre ++ post) ((pre ++ post).length : Int) (pre.length : Int)) (s + sm post)
 | [], pre, s, h0, h1, hw, hl => by
  refine Ev.step (f := fun _ => some s) (fun k => ?_) ?_
  ·simp only [capture_long.l0]
   rw [if_neg (by simp)]
  ·simp only [sm, Int.add_zero]
   exact Ev.now _
 | x :: post, pre, s, h0, h1, hw, hl => by
  have hx := hw.cons
  have hs := smM_nonneg hx.2
  simp only [sm] at h1
  have hlt := mid_lt pre post x
  have hn : pre.length ≤ 9223372036854775806 := by
   simp only [List.length_append, List.length_cons] at hl
   omega
  have ih := long_l0 post (pre ++ [x]) (s + x.f1) (by omega) (by omega) hx.2 (by simpa using hl)
  rw [← mid_snoc] at ih
  have e1 : s + sm (x :: post) = s + x.f1 + sm post := by
   simp only [sm]
   omega
  rw [e1]
  refine Ev.step (fun k => ?_) ih
  simp only [capture_long.l0]
  rw [rd_mid, if_pos hlt, if_pos (by omega), if_pos hlt, w64 (x := s + x.f1) (by omega) (by omega), succ_mid _ _ hn]
theorem long_ev {m : Int} {r : List S48} (h : RunsM m r) (hs : sm r ≤ 1099511627776) (hr : r.length ≤ 140737488351232) : Ev (fun k => capture_long.f k r) (sm r) := by
 have h := long_l0 r [] 0 (by omega) (by omega) h (by simpa using hr)
 rw [Int.zero_add] at h
 exact Ev.congr (fun k => rfl) h
theorem total_l0 {m : Int} : ∀ (post pre : List S48) (s : Int), 0 ≤ s → s + sm post ≤ 4611686018427387904 → RunsM m post → (pre ++ post).length ≤ 140737488351232 →
  Ev (fun k => rf_total.l0 k (pre ++ post) s (pre.length : Int)) (s + sm post)
 | [], pre, s, h0, h1, hw, hl => by
  refine Ev.step (f := fun _ => some s) (fun k => ?_) ?_
  ·simp only [rf_total.l0]
   rw [if_neg (by simp)]
  ·simp only [sm, Int.add_zero]
   exact Ev.now _
 | x :: post, pre, s, h0, h1, hw, hl => by
  have hx := hw.cons
  have hs := smM_nonneg hx.2
  simp only [sm] at h1
  have hlt := mid_lt pre post x
  have hn : pre.length ≤ 9223372036854775806 := by
   simp only [List.length_append, List.length_cons] at hl
   omega
  have ih := total_l0 post (pre ++ [x]) (s + x.f1) (by omega) (by omega) hx.2 (by simpa using hl)
  rw [← mid_snoc] at ih
  have e1 : s + sm (x :: post) = s + x.f1 + sm post := by
   simp only [sm]
   omega
  rw [e1]
  refine Ev.step (fun k => ?_) ih
  simp only [rf_total.l0]
  rw [rd_mid, if_pos hlt, if_pos (by omega), w64 (x := s + x.f1) (by omega) (by omega), succ_mid _ _ hn]
theorem total_ev {m : Int} {r : List S48} (h : RunsM m r) (hs : sm r ≤ 1099511627776) (hr : r.length ≤ 140737488351232) : Ev (fun k => rf_total.f k r) (sm r) := by
 have h := total_l0 r [] 0 (by omega) (by omega) h (by simpa using hr)
 rw [Int.zero_add] at h
 exact Ev.congr (fun k => rfl) h
theorem lives09_ev : Ev (fun k => lw_lives.f k) true := Ev.of (k := 60) (fun k => lw_lives.mono k) (by decide +kernel)
def fewV (l : List ByteArray) (r : List S48) : Bool := decide (l.length ≤ 100 ∧ r.length ≤ 2000)
theorem few09_eq (l : List ByteArray) (r : List S48) : lw_few.f l r = some (fewV l r) := by
 unfold lw_few.f fewV
 by_cases c : l.length ≤ 100
 ·rw [if_pos (by omega)]
  by_cases c1 : r.length ≤ 2000
  ·rw [decide_eq_true (by omega), decide_eq_true ⟨c, c1⟩]
  ·rw [decide_eq_false (by omega), decide_eq_false (fun h => c1 h.2)]
 ·rw [if_neg (by omega), decide_eq_false (fun h => c h.1)]
/-- A run put behind runs. -/
def putR (o : List S48) (v t : Int) : List S48 :=
 match o.getLast? with
 | some y => if y.f0 = v then o.dropLast ++ [(⟨y.f0, y.f1 + t⟩ : S48)] else o ++ [(⟨v, t⟩ : S48)]
 | none => [(⟨v, t⟩ : S48)]
theorem putR_nil (v t : Int) : putR [] v t = [⟨v, t⟩] := rfl
theorem putR_same (o : List S48) (y : S48) (t : Int) : putR (o ++ [y]) y.f0 t = o ++ [⟨y.f0, y.f1 + t⟩] := by
 simp [putR]
theorem putR_new (o : List S48) (y : S48) {v t : Int} (h : ¬ y.f0 = v) : putR (o ++ [y]) v t = o ++ [y] ++ [⟨v, t⟩] := by
 simp [putR, h]
theorem snoc_cases {α : Type} (o : List α) : o = [] ∨ ∃ q y, o = q ++ [y] := by
 rcases List.eq_nil_or_concat o with h | ⟨q, y, h⟩
 ·exact .inl h
 ·exact .inr ⟨q, y, by simpa using h⟩
theorem last_at (o : List S48) (x : S48) (h : o.length ≤ 9223372036854775806) : wrap64 (((o ++ [x]).length : Int) - 1) = (o.length : Int) := by
 rw [w64 (by simp only [List.length_append, List.length_cons, List.length_nil]; omega) (by simp only [List.length_append, List.length_cons, List.length_nil]; omega)]
 simp
theorem rd_last (o : List S48) (x : S48) : rd_T48 (o ++ [x]) (o.length : Int) = x := rd_mid o [] x
theorem set_last (o : List S48) (x y : S48) : (o ++ [x]).set ((o.length : Int)).toNat y = o ++ [y] := by
 rw [Int.toNat_natCast]
 simp
theorem join_eq {o : List S48} {v t : Int} (ho : o.length < 8796093022208) (h0 : 0 ≤ t) (hs : ∀ y ∈ o, 0 ≤ y.f1 ∧ y.f1 + t ≤ 9223372036854775807) : capture_join.f o v t = some (putR o v t) := by
 rcases snoc_cases o with rfl | ⟨q, y, rfl⟩
 ·unfold capture_join.f
  rw [if_neg (by simp), if_pos (by simp)]
  rfl
 ·have hy := hs y (by simp)
  have hq : q.length ≤ 9223372036854775806 := by
   simp only [List.length_append, List.length_cons, List.length_nil] at ho
   omega
  have hlt : (q.length : Int) < ((q ++ [y]).length : Int) := mid_lt q [] y
  unfold capture_join.f
  rw [last_at q y hq, rd_last, if_pos (by omega), if_pos (by omega), if_pos hlt]
  by_cases c : y.f0 = v
  ·rw [if_pos c, set_last, w64 (by omega) (by omega), ← c, putR_same]
  ·rw [if_neg c, if_pos ho, putR_new q y c]
theorem refput_eq {o : List S48} {v t : Int} (ho : o.length < 8796093022208) (h0 : 1 ≤ t) (hs : ∀ y ∈ o, 0 ≤ y.f1 ∧ y.f1 + t ≤ 9223372036854775807) : rf_put.f o v t = some (putR o v t) := by
 rcases snoc_cases o with rfl | ⟨q, y, rfl⟩
 ·unfold rf_put.f
  rw [if_neg (by omega), if_neg (by simp), if_pos (by simp)]
  rfl
 ·have hy := hs y (by simp)
  have hq : q.length ≤ 9223372036854775806 := by
   simp only [List.length_append, List.length_cons, List.length_nil] at ho
   omega
  have hlt : (q.length : Int) < ((q ++ [y]).length : Int) := mid_lt q [] y
  unfold rf_put.f
  rw [last_at q y hq, rd_last, if_neg (by omega), if_pos (by omega), if_pos (by omega), if_pos hlt]
  by_cases c : y.f0 = v
  ·rw [if_pos c, set_last, w64 (by omega) (by omega), ← c, putR_same]
  ·rw [if_neg c, if_pos ho, putR_new q y c]
theorem refput_skip {o : List S48} {v t : Int} (h0 : t < 1) : rf_put.f o v t = some o := by
 unfold rf_put.f
 rw [if_pos h0]
theorem putR_sm (o : List S48) (v t : Int) : sm (putR o v t) = sm o + t := by
 rcases snoc_cases o with rfl | ⟨q, y, rfl⟩
 ·simp [putR_nil, sm]
 ·by_cases c : y.f0 = v
  ·rw [← c, putR_same]
   simp only [sm_append, sm]
   omega
  ·rw [putR_new q y c]
   simp only [sm_append, sm]
   omega
theorem putR_len (o : List S48) (v t : Int) : (putR o v t).length ≤ o.length + 1 := by
 rcases snoc_cases o with rfl | ⟨q, y, rfl⟩
 ·simp [putR_nil]
 ·by_cases c : y.f0 = v
  ·rw [← c, putR_same]
   simp
  ·rw [putR_new q y c]
   simp
theorem putR_ok {m : Int} {o : List S48} {v t : Int} (h : RunsM m o) (hv : 0 ≤ v ∧ v ≤ m) (ht : 1 ≤ t) : RunsM m (putR o v t) := by
 rcases snoc_cases o with rfl | ⟨q, y, rfl⟩
 ·intro x hx
  rw [putR_nil, List.mem_singleton] at hx
  subst hx
  exact ⟨hv.1, hv.2, ht⟩
 ·have hy := h y (by simp)
  by_cases c : y.f0 = v
  ·rw [← c, putR_same]
   intro x hx
   rcases List.mem_append.1 hx with hx | hx
   ·exact h x (by simp [hx])
   ·rw [List.mem_singleton] at hx
    subst hx
    exact ⟨hy.1, hy.2.1, by show 1 ≤ y.f1 + t; omega⟩
  ·rw [putR_new q y c]
   intro x hx
   rcases List.mem_append.1 hx with hx | hx
   ·exact h x hx
   ·rw [List.mem_singleton] at hx
    subst hx
    exact ⟨hv.1, hv.2, ht⟩
/-- Each run has at most the sum of all. -/
theorem le_sm {m : Int} : ∀ {l : List S48}, RunsM m l → ∀ y ∈ l, 0 ≤ y.f1 ∧ y.f1 ≤ sm l
 | [], h, y, hy => by simp at hy
 | x :: l, h, y, hy => by
  have hx := h.cons
  have h0 := smM_nonneg hx.2
  simp only [sm]
  rcases List.mem_cons.1 hy with rfl | hy
  ·omega
  ·have := le_sm hx.2 y hy
   omega
theorem sm_cons (x : S48) (l : List S48) : sm (x :: l) = x.f1 + sm l := rfl
/-- The part from the tick from on, before to: what is put behind o, at the tick at. -/
def slC (from_ to_ : Int) : Int → List S48 → List S48 → List S48
 | _, o, [] => o
 | at_, o, x :: l => slC from_ to_ (at_ + x.f1) (if mx at_ from_ < mn (at_ + x.f1) to_ then putR o x.f0 (mn (at_ + x.f1) to_ - mx at_ from_) else o) l
theorem mx_le (a b : Int) : a ≤ mx a b ∧ b ≤ mx a b ∧ (mx a b = a ∨ mx a b = b) := by
 unfold mx
 by_cases c : a < b
 ·rw [if_pos c]
  omega
 ·rw [if_neg c]
  omega
theorem mn_le (a b : Int) : mn a b ≤ a ∧ mn a b ≤ b ∧ (mn a b = a ∨ mn a b = b) := by
 unfold mn
 by_cases c : b < a
 ·rw [if_pos c]
  omega
 ·rw [if_neg c]
  omega
/-- How many ticks of the part lie before a tick. -/
def don (from_ to_ at_ : Int) : Int := mx 0 (mn at_ to_ - from_)
theorem don_step {from_ to_ at_ n : Int} (h0 : 0 ≤ from_) (h1 : from_ < to_) (h2 : 0 ≤ at_) (h3 : 1 ≤ n) :
  don from_ to_ (at_ + n) = don from_ to_ at_ + (if mx at_ from_ < mn (at_ + n) to_ then mn (at_ + n) to_ - mx at_ from_ else 0) := by
 have a1 := mx_le at_ from_
 have a2 := mn_le (at_ + n) to_
 have a3 := mn_le at_ to_
 have a4 := mx_le 0 (mn at_ to_ - from_)
 have a5 := mx_le 0 (mn (at_ + n) to_ - from_)
 unfold don
 by_cases c : mx at_ from_ < mn (at_ + n) to_
 ·rw [if_pos c]
  omega
 ·rw [if_neg c]
  omega
theorem slC_ok {m from_ to_ : Int} (h0 : 0 ≤ from_) (h1 : from_ < to_) : ∀ (l o : List S48) (at_ : Int), 0 ≤ at_ → RunsM m o → RunsM m l → sm o = don from_ to_ at_ →
  RunsM m (slC from_ to_ at_ o l) ∧ sm (slC from_ to_ at_ o l) = don from_ to_ (at_ + sm l) ∧ (slC from_ to_ at_ o l).length ≤ o.length + l.length
 | [], o, at_, ha, ho, hl, hs => by
  simp only [slC, sm, Int.add_zero, List.length_nil]
  exact ⟨ho, hs, Nat.le_refl _⟩
 | x :: l, o, at_, ha, ho, hl, hs => by
  have hx := hl.cons
  have hd := don_step h0 h1 ha hx.1.2.2
  simp only [slC, sm, List.length_cons]
  by_cases c : mx at_ from_ < mn (at_ + x.f1) to_
  ·rw [if_pos c] at hd ⊢
   have ih := slC_ok h0 h1 l (putR o x.f0 (mn (at_ + x.f1) to_ - mx at_ from_)) (at_ + x.f1) (by omega) (putR_ok ho ⟨hx.1.1, hx.1.2.1⟩ (by omega)) hx.2 (by rw [putR_sm]; omega)
   have hp := putR_len o x.f0 (mn (at_ + x.f1) to_ - mx at_ from_)
   exact ⟨ih.1, by rw [ih.2.1, Int.add_assoc], by have := ih.2.2; omega⟩
  ·rw [if_neg c] at hd ⊢
   have ih := slC_ok h0 h1 l o (at_ + x.f1) (by omega) ho hx.2 (by omega)
   exact ⟨ih.1, by rw [ih.2.1, Int.add_assoc], by have := ih.2.2; omega⟩
theorem Slice_l0 {m from_ to_ : Int} (h0 : 0 ≤ from_) (h1 : from_ < to_) (h2 : to_ ≤ 1099511627776) (n : List ByteArray) : ∀ (post pre o : List S48) (at_ : Int), 0 ≤ at_ → at_ + sm post ≤ 1099511627776 → RunsM m o → RunsM m post → sm o = don from_ to_ at_ → (pre ++ post).length ≤ 262144 → o.length + post.length ≤ 262144 →
  Ev (fun k => capture_Slice.l0 k from_ to_ at_ (pre ++ post) ((pre ++ post).length : Int) (pre.length : Int) n o) (n, slC from_ to_ at_ o post, 0)
 | [], pre, o, at_, ha, hb, ho, hp, hs, hl, hol => by
  refine Ev.step (f := fun _ => some (n, o, 0)) (fun k => ?_) (Ev.now _)
  simp only [capture_Slice.l0]
  rw [if_neg (by simp)]
 | x :: post, pre, o, at_, ha, hb, ho, hp, hs, hl, hol => by
  have hx := hp.cons
  have h3 := smM_nonneg hx.2
  simp only [sm] at hb
  simp only [List.length_cons] at hol
  have hlt := mid_lt pre post x
  have hn : pre.length ≤ 9223372036854775806 := by
   simp only [List.length_append, List.length_cons] at hl
   omega
  have hd := don_step h0 h1 ha hx.1.2.2
  have a1 := mx_le at_ from_
  have a2 := mn_le (at_ + x.f1) to_
  have a3 := mn_le at_ to_
  have a4 := mx_le 0 (mn at_ to_ - from_)
  have d0 : don from_ to_ at_ = mx 0 (mn at_ to_ - from_) := rfl
  simp only [slC]
  by_cases c : mx at_ from_ < mn (at_ + x.f1) to_
  ·rw [if_pos c] at hd ⊢
   have hj : capture_join.f o x.f0 (mn (at_ + x.f1) to_ - mx at_ from_) = some (putR o x.f0 (mn (at_ + x.f1) to_ - mx at_ from_)) := join_eq (by omega) (by omega) (fun y hy => by have := le_sm ho y hy; omega)
   have ih := Slice_l0 h0 h1 h2 n post (pre ++ [x]) (putR o x.f0 (mn (at_ + x.f1) to_ - mx at_ from_)) (at_ + x.f1) (by omega) (by omega) (putR_ok ho ⟨hx.1.1, hx.1.2.1⟩ (by omega)) hx.2 (by rw [putR_sm]; omega) (by simpa using hl) (by have := putR_len o x.f0 (mn (at_ + x.f1) to_ - mx at_ from_); omega)
   rw [← mid_snoc] at ih
   refine Ev.step (fun k => ?_) ih
   simp only [capture_Slice.l0]
   rw [rd_mid, if_pos hlt, if_pos (by omega), if_pos hlt, w64 (x := at_ + x.f1) (by omega) (by omega), if_pos c, w64 (x := mn (at_ + x.f1) to_ - mx at_ from_) (by omega) (by omega), hj, Option.bind_some, succ_mid _ _ hn]
  ·rw [if_neg c] at hd ⊢
   have ih := Slice_l0 h0 h1 h2 n post (pre ++ [x]) o (at_ + x.f1) (by omega) (by omega) ho hx.2 (by omega) (by simpa using hl) (by omega)
   rw [← mid_snoc] at ih
   refine Ev.step (fun k => ?_) ih
   simp only [capture_Slice.l0]
   rw [rd_mid, if_pos hlt, if_pos (by omega), if_pos hlt, w64 (x := at_ + x.f1) (by omega) (by omega), if_neg c, succ_mid _ _ hn]
theorem don_0 {from_ to_ : Int} (h0 : 0 ≤ from_) (h1 : from_ < to_) : don from_ to_ 0 = 0 := by
 have a3 := mn_le 0 to_
 have a4 := mx_le 0 (mn 0 to_ - from_)
 unfold don
 omega
/-- The answer of Slice. -/
def slV (l : List ByteArray) (r : List S48) (from_ to_ : Int) : List ByteArray × List S48 × Int :=
 if chkV l r = 0 then (if from_ < 0 ∨ from_ ≥ to_ ∨ to_ > sm r then ([], [], 2) else (l, slC from_ to_ 0 [] r, 0)) else ([], [], chkV l r)
theorem Slice_ev {l : List ByteArray} {r : List S48} {from_ to_ : Int} (hs : StrsOk l) (hl : l.length ≤ 140737488351232) (hr : r.length ≤ 140737488351232) : Ev (fun k => capture_Slice.f k l r from_ to_) (slV l r from_ to_) := by
 have hj : Ev (fun k => capture_Slice.j0 k from_ to_ true l r) ([], [], 2) := Ev.step (f := fun _ => some ([], [], 2)) (fun k => by simp only [capture_Slice.j0]; rfl) (Ev.now _)
 unfold slV
 refine Ev.bind (Check_ev hs hl hr) ?_
 by_cases c : chkV l r = 0
 ·have h := chk_0 c
  have h16 := nmsV_0 h.2.1
  rw [if_pos c]
  refine Ev.congr (fun k => if_pos c) ?_
  by_cases c1 : from_ < 0
  ·rw [if_pos (.inl c1)]
   exact Ev.congr (fun k => if_pos c1) hj
  ·refine Ev.congr (fun k => if_neg c1) ?_
   by_cases c2 : from_ ≥ to_
   ·rw [if_pos (.inr (.inl c2))]
    exact Ev.congr (fun k => if_pos c2) hj
   ·refine Ev.congr (fun k => if_neg c2) (Ev.bind (long_ev h.2.2.1 h.2.2.2 hr) ?_)
    by_cases c3 : to_ > sm r
    ·rw [if_pos (.inr (.inr c3)), decide_eq_true c3]
     exact hj
    ·rw [if_neg (by omega), decide_eq_false c3]
     have hc : slices_Clone_string.f l = some l := by
      unfold slices_Clone_string.f
      rw [if_pos (by omega)]
     refine Ev.step (fun k => ?_) (Slice_l0 (m := mk l) (by omega) (by omega) (by omega) l r [] [] 0 (Int.le_refl 0) (by omega) (fun x hx => by simp at hx) h.2.2.1 (by rw [don_0 (by omega) (by omega)]; rfl) (by simpa using h.1) (by simpa using h.1))
     simp only [capture_Slice.j0]
     rw [if_neg (by decide), hc]
     rfl
 ·rw [if_neg c]
  exact Ev.congr (fun k => if_neg c) (Ev.now _)
def Tk (l : List S48) : Prop := ∀ y ∈ l, 1 ≤ y.f1
theorem RunsM.tk {m : Int} {l : List S48} (h : RunsM m l) : Tk l := fun y hy => (h y hy).2.2
theorem Tk.cons {x : S48} {l : List S48} (h : Tk (x :: l)) : 1 ≤ x.f1 ∧ Tk l := ⟨h x (by simp), fun y hy => h y (by simp [hy])⟩
theorem smT_nonneg : ∀ {l : List S48}, Tk l → 0 ≤ sm l
 | [], _ => Int.le_refl _
 | x :: l, h => by
  have h1 := h.cons
  have h2 := smT_nonneg h1.2
  simp only [sm]
  omega
theorem leT_sm : ∀ {l : List S48}, Tk l → ∀ y ∈ l, 0 ≤ y.f1 ∧ y.f1 ≤ sm l
 | [], h, y, hy => by simp at hy
 | x :: l, h, y, hy => by
  have hx := h.cons
  have h0 := smT_nonneg hx.2
  simp only [sm]
  rcases List.mem_cons.1 hy with rfl | hy
  ·omega
  ·have := leT_sm hx.2 y hy
   omega
theorem putR_tk {o : List S48} {v t : Int} (h : Tk o) (ht : 1 ≤ t) : Tk (putR o v t) := by
 rcases snoc_cases o with rfl | ⟨q, y, rfl⟩
 ·intro x hx
  rw [putR_nil, List.mem_singleton] at hx
  subst hx
  exact ht
 ·have hy := h y (by simp)
  by_cases c : y.f0 = v
  ·rw [← c, putR_same]
   intro x hx
   rcases List.mem_append.1 hx with hx | hx
   ·exact h x (by simp [hx])
   ·rw [List.mem_singleton] at hx
    subst hx
    show 1 ≤ y.f1 + t
    omega
  ·rw [putR_new q y c]
   intro x hx
   rcases List.mem_append.1 hx with hx | hx
   ·exact h x hx
   ·rw [List.mem_singleton] at hx
    subst hx
    exact ht
def bit (v i : Int) : Int := Go.bits .and .i64 (shr .i64 v i) 1
def chC (i : Int) : List S48 → List S48 → List S48
 | o, [] => o
 | o, x :: l => chC i (putR o (bit x.f0 i) x.f1) l
theorem chC_len (i : Int) : ∀ (l o : List S48), (chC i o l).length ≤ o.length + l.length
 | [], o => by simp [chC]
 | x :: l, o => by
  have := chC_len i l (putR o (bit x.f0 i) x.f1)
  have := putR_len o (bit x.f0 i) x.f1
  simp only [chC, List.length_cons]
  omega
theorem Channel_l0 {i : Int} (hi : 0 ≤ i) : ∀ (post pre o : List S48), Tk o → Tk post → sm o + sm post ≤ 1099511627776 → (pre ++ post).length ≤ 262144 → o.length + post.length ≤ 262144 →
  Ev (fun k => capture_Channel.l0 k i o (pre ++ post) ((pre ++ post).length : Int) (pre.length : Int)) (chC i o post, 0)
 | [], pre, o, h0, h1, hs, hl, ho => by
  refine Ev.step (f := fun _ => some (o, 0)) (fun k => ?_) (Ev.now _)
  simp only [capture_Channel.l0]
  rw [if_neg (by simp)]
 | x :: post, pre, o, h0, h1, hs, hl, ho => by
  have hx := h1.cons
  have h2 := smT_nonneg hx.2
  have h3 := smT_nonneg h0
  simp only [sm] at hs
  simp only [List.length_cons] at ho
  have hlt := mid_lt pre post x
  have hn : pre.length ≤ 9223372036854775806 := by
   simp only [List.length_append, List.length_cons] at hl
   omega
  have hj : capture_join.f o (Go.bits .and .i64 (shr .i64 x.f0 i) 1) x.f1 = some (putR o (bit x.f0 i) x.f1) := join_eq (by omega) (by omega) (fun y hy => by have := leT_sm h0 y hy; omega)
  have ih := Channel_l0 hi post (pre ++ [x]) (putR o (bit x.f0 i) x.f1) (putR_tk h0 hx.1) hx.2 (by rw [putR_sm]; omega) (by simpa using hl) (by have := putR_len o (bit x.f0 i) x.f1; omega)
  rw [← mid_snoc] at ih
  refine Ev.step (fun k => ?_) ih
  simp only [capture_Channel.l0]
  rw [rd_mid, if_pos hlt, if_pos (by omega), if_pos hlt, if_pos hi, hj, Option.bind_some, succ_mid _ _ hn]
theorem refChannel_l0 {i : Int} (hi : 0 ≤ i) (n : List ByteArray) : ∀ (post pre o : List S48), Tk o → Tk post → sm o + sm post ≤ 1099511627776 → (pre ++ post).length ≤ 262144 → o.length + post.length ≤ 262144 →
  Ev (fun k => rf_Channel.l0 k i o (pre.length : Int) n (pre ++ post)) (chC i o post, 0)
 | [], pre, o, h0, h1, hs, hl, ho => by
  refine Ev.step (f := fun _ => some (o, 0)) (fun k => ?_) (Ev.now _)
  simp only [rf_Channel.l0]
  rw [if_neg (by simp)]
 | x :: post, pre, o, h0, h1, hs, hl, ho => by
  have hx := h1.cons
  have h2 := smT_nonneg hx.2
  have h3 := smT_nonneg h0
  simp only [sm] at hs
  simp only [List.length_cons] at ho
  have hlt := mid_lt pre post x
  have hn : pre.length ≤ 9223372036854775806 := by
   simp only [List.length_append, List.length_cons] at hl
   omega
  have hj : rf_put.f o (Go.bits .and .i64 (shr .i64 x.f0 i) 1) x.f1 = some (putR o (bit x.f0 i) x.f1) := refput_eq (by omega) hx.1 (fun y hy => by have := leT_sm h0 y hy; omega)
  have ih := refChannel_l0 hi n post (pre ++ [x]) (putR o (bit x.f0 i) x.f1) (putR_tk h0 hx.1) hx.2 (by rw [putR_sm]; omega) (by simpa using hl) (by have := putR_len o (bit x.f0 i) x.f1; omega)
  rw [← mid_snoc] at ih
  refine Ev.step (fun k => ?_) ih
  simp only [rf_Channel.l0]
  rw [rd_mid, if_pos hlt, if_pos (by omega), if_pos hi, hj, Option.bind_some, succ_mid _ _ hn]
theorem place_l0 (s : ByteArray) : ∀ (post pre : List ByteArray), (pre ++ post).length ≤ 140737488351232 →
  Ev (fun k => rf_place.l0 k (pre ++ post) s (pre.length : Int)) (ixS s pre.length post)
 | [], pre, hl => by
  refine Ev.step (f := fun _ => some (-1)) (fun k => ?_) (Ev.now _)
  simp only [rf_place.l0]
  rw [if_neg (by simp)]
 | x :: post, pre, hl => by
  have hlt := mids_lt pre post x
  have hn : pre.length ≤ 9223372036854775806 := by
   simp only [List.length_append, List.length_cons] at hl
   omega
  have hst : ∀ k, rf_place.l0 (k + 1) (pre ++ x :: post) s (pre.length : Int) = if x.toList = s.toList then some (pre.length : Int) else rf_place.l0 k (pre ++ x :: post) s ((pre ++ [x]).length : Int) := by
   intro k
   simp only [rf_place.l0]
   rw [rds_mid, if_pos hlt, if_pos (by omega), succ_mid _ _ hn]
  unfold ixS
  by_cases c : s.toList = x.toList
  ·rw [if_pos c]
   exact Ev.step (fun k => (hst k).trans (if_pos c.symm)) (Ev.now _)
  ·rw [if_neg c]
   have ih := place_l0 s post (pre ++ [x]) (by simpa using hl)
   rw [← mid_snoc] at ih
   have e : (pre ++ [x]).length = pre.length + 1 := by simp
   rw [e] at ih
   refine Ev.step (fun k => (hst k).trans (if_neg (fun h => c h.symm))) ?_
   rw [e]
   exact ih
theorem place_ev (l : List ByteArray) (s : ByteArray) (hl : l.length ≤ 140737488351232) : Ev (fun k => rf_place.f k l s) (ixS s 0 l) := Ev.congr (fun k => rfl) (place_l0 s l [] (by simpa using hl))
def chV (l : List ByteArray) (r : List S48) (s : ByteArray) : List S48 × Int := if chkV l r = 0 then (if ixS s 0 l < 0 then ([], 8) else (chC (ixS s 0 l) [] r, 0)) else ([], chkV l r)
theorem Channel_ev {l : List ByteArray} {r : List S48} {s : ByteArray} (hs : StrsOk l) (hl : l.length ≤ 140737488351232) (hr : r.length ≤ 140737488351232) : Ev (fun k => capture_Channel.f k l r s) (chV l r s) := by
 unfold chV
 refine Ev.bind (Check_ev hs hl hr) ?_
 by_cases c : chkV l r = 0
 ·have h := chk_0 c
  rw [if_pos c]
  refine Ev.congr (fun k => if_pos c) (Ev.bind (Index_ev l s hl) ?_)
  by_cases c1 : ixS s 0 l < 0
  ·rw [if_pos c1]
   exact Ev.congr (fun k => if_pos c1) (Ev.now _)
  ·rw [if_neg c1]
   exact Ev.congr (fun k => if_neg c1) (Channel_l0 (by omega) r [] [] (fun x hx => by simp at hx) h.2.2.1.tk (by simp only [sm]; omega) (by simpa using h.1) (by simpa using h.1))
 ·rw [if_neg c]
  exact Ev.congr (fun k => if_neg c) (Ev.now _)
theorem refChannel_ev {l : List ByteArray} {r : List S48} {s : ByteArray} (hs : StrsOk l) (hl : l.length ≤ 140737488351232) (hr : r.length ≤ 140737488351232) : Ev (fun k => rf_Channel.f k l r s) (chV l r s) := by
 unfold chV
 refine Ev.bind (refCheck_ev hs hl hr) ?_
 by_cases c : chkV l r = 0
 ·have h := chk_0 c
  rw [if_pos c]
  refine Ev.congr (fun k => if_pos c) (Ev.bind (place_ev l s hl) ?_)
  by_cases c1 : ixS s 0 l < 0
  ·rw [if_pos c1]
   exact Ev.congr (fun k => if_pos c1) (Ev.now _)
  ·rw [if_neg c1]
   exact Ev.congr (fun k => if_neg c1) (refChannel_l0 (by omega) l r [] [] (fun x hx => by simp at hx) h.2.2.1.tk (by simp only [sm]; omega) (by simpa using h.1) (by simpa using h.1))
 ·rw [if_neg c]
  exact Ev.congr (fun k => if_neg c) (Ev.now _)
theorem refput_any {o : List S48} {v t : Int} (ho : o.length < 8796093022208) (hs : 1 ≤ t → ∀ y ∈ o, 0 ≤ y.f1 ∧ y.f1 + t ≤ 9223372036854775807) : rf_put.f o v t = some (if 1 ≤ t then putR o v t else o) := by
 by_cases c : 1 ≤ t
 ·rw [if_pos c]
  exact refput_eq ho c (hs c)
 ·rw [if_neg c]
  exact refput_skip (by omega)
theorem Part_step {o : List S48} {x : S48} {from_ to_ at_ : Int} (hb : at_ + x.f1 ≤ 1099511627776) (ha : 0 ≤ at_) (hx : 1 ≤ x.f1) (h0 : 0 ≤ from_) (h1 : from_ < to_) (h2 : to_ ≤ 1099511627776) (ho : o.length < 8796093022208)
  (hs : ∀ y ∈ o, 0 ≤ y.f1 ∧ y.f1 ≤ 1099511627776) (f : List S48 → Option (List S48)) :
  (if at_ < from_ then (if at_ + x.f1 > to_ then (rf_put.f o x.f0 (wrap64 (to_ - from_))).bind f else (rf_put.f o x.f0 (wrap64 (at_ + x.f1 - from_))).bind f) else (if at_ + x.f1 > to_ then (rf_put.f o x.f0 (wrap64 (to_ - at_))).bind f else (rf_put.f o x.f0 (wrap64 (at_ + x.f1 - at_))).bind f)) =
   f (if mx at_ from_ < mn (at_ + x.f1) to_ then putR o x.f0 (mn (at_ + x.f1) to_ - mx at_ from_) else o) := by
 have key : ∀ a b : Int, mx at_ from_ = a → mn (at_ + x.f1) to_ = b → 0 ≤ a → a ≤ 1099511627776 → 0 ≤ b → b ≤ 1099511627776 → (rf_put.f o x.f0 (wrap64 (b - a))).bind f = f (if mx at_ from_ < mn (at_ + x.f1) to_ then putR o x.f0 (mn (at_ + x.f1) to_ - mx at_ from_) else o) := by
  intro a b ea eb ha0 ha1 hb0 hb1
  rw [ea, eb, w64 (by omega) (by omega), refput_any ho (fun ht y hy => by have := hs y hy; omega), Option.bind_some]
  by_cases c : a < b
  ·rw [if_pos (by omega), if_pos c]
  ·rw [if_neg (by omega), if_neg c]
 by_cases c : at_ < from_
 ·rw [if_pos c]
  have e : mx at_ from_ = from_ := if_pos c
  by_cases c1 : at_ + x.f1 > to_
  ·rw [if_pos c1]
   exact key from_ to_ e (if_pos c1) (by omega) (by omega) (by omega) (by omega)
  ·rw [if_neg c1]
   exact key from_ (at_ + x.f1) e (if_neg c1) (by omega) (by omega) (by omega) (by omega)
 ·rw [if_neg c]
  have e : mx at_ from_ = at_ := if_neg c
  by_cases c1 : at_ + x.f1 > to_
  ·rw [if_pos c1]
   exact key at_ to_ e (if_pos c1) (by omega) (by omega) (by omega) (by omega)
  ·rw [if_neg c1]
   exact key at_ (at_ + x.f1) e (if_neg c1) (by omega) (by omega) (by omega) (by omega)
theorem Part_l0 {m from_ to_ : Int} (h0 : 0 ≤ from_) (h1 : from_ < to_) (h2 : to_ ≤ 1099511627776) : ∀ (post pre o : List S48) (at_ : Int), 0 ≤ at_ → at_ + sm post ≤ 1099511627776 → RunsM m o → RunsM m post → sm o = don from_ to_ at_ → (pre ++ post).length ≤ 262144 → o.length + post.length ≤ 262144 →
  Ev (fun k => rf_Part.l0 k (pre ++ post) from_ to_ o at_ (pre.length : Int)) (slC from_ to_ at_ o post)
 | [], pre, o, at_, ha, hb, ho, hp, hs, hl, hol => by
  refine Ev.step (f := fun _ => some o) (fun k => ?_) (Ev.now _)
  simp only [rf_Part.l0]
  rw [if_neg (by simp)]
 | x :: post, pre, o, at_, ha, hb, ho, hp, hs, hl, hol => by
  have hx := hp.cons
  have h3 := smM_nonneg hx.2
  simp only [sm] at hb
  simp only [List.length_cons] at hol
  have hlt := mid_lt pre post x
  have hn : pre.length ≤ 9223372036854775806 := by
   simp only [List.length_append, List.length_cons] at hl
   omega
  have hd := don_step h0 h1 ha hx.1.2.2
  have a1 := mx_le at_ from_
  have a2 := mn_le (at_ + x.f1) to_
  have a3 := mn_le at_ to_
  have a4 := mx_le 0 (mn at_ to_ - from_)
  have d0 : don from_ to_ at_ = mx 0 (mn at_ to_ - from_) := rfl
  have hst : ∀ k, rf_Part.l0 (k + 1) (pre ++ x :: post) from_ to_ o at_ (pre.length : Int) = rf_Part.l0 k (pre ++ x :: post) from_ to_ (if mx at_ from_ < mn (at_ + x.f1) to_ then putR o x.f0 (mn (at_ + x.f1) to_ - mx at_ from_) else o) (at_ + x.f1) ((pre ++ [x]).length : Int) := by
   intro k
   simp only [rf_Part.l0]
   rw [rd_mid, if_pos hlt, if_pos (by omega), w64 (x := at_ + x.f1) (by omega) (by omega), succ_mid _ _ hn]
   exact Part_step (by omega) ha hx.1.2.2 h0 h1 h2 (by omega) (fun y hy => by have := le_sm ho y hy; omega) (fun t => rf_Part.l0 k (pre ++ x :: post) from_ to_ t (at_ + x.f1) ((pre ++ [x]).length : Int))
  refine Ev.step hst ?_
  simp only [slC]
  rw [mid_snoc]
  by_cases c : mx at_ from_ < mn (at_ + x.f1) to_
  ·rw [if_pos c] at hd ⊢
   exact Part_l0 h0 h1 h2 post (pre ++ [x]) (putR o x.f0 (mn (at_ + x.f1) to_ - mx at_ from_)) (at_ + x.f1) (by omega) (by omega) (putR_ok ho ⟨hx.1.1, hx.1.2.1⟩ (by omega)) hx.2 (by rw [putR_sm]; omega) (by simpa using hl) (by have := putR_len o x.f0 (mn (at_ + x.f1) to_ - mx at_ from_); omega)
  ·rw [if_neg c] at hd ⊢
   exact Part_l0 h0 h1 h2 post (pre ++ [x]) o (at_ + x.f1) (by omega) (by omega) ho hx.2 (by omega) (by simpa using hl) (by omega)
theorem refSlice_ev {l : List ByteArray} {r : List S48} {from_ to_ : Int} (hs : StrsOk l) (hl : l.length ≤ 140737488351232) (hr : r.length ≤ 140737488351232) : Ev (fun k => rf_Slice.f k l r from_ to_) (slV l r from_ to_) := by
 unfold slV
 refine Ev.bind (refCheck_ev hs hl hr) ?_
 by_cases c : chkV l r = 0
 ·have h := chk_0 c
  have h16 := nmsV_0 h.2.1
  rw [if_pos c]
  refine Ev.congr (fun k => if_pos c) ?_
  by_cases c1 : from_ < 0
  ·rw [if_pos (.inl c1)]
   exact Ev.congr (fun k => if_pos c1) (Ev.now _)
  ·refine Ev.congr (fun k => if_neg c1) ?_
   by_cases c2 : from_ ≥ to_
   ·rw [if_pos (.inr (.inl c2))]
    exact Ev.congr (fun k => if_pos c2) (Ev.now _)
   ·refine Ev.congr (fun k => if_neg c2) (Ev.bind (total_ev h.2.2.1 h.2.2.2 hr) ?_)
    by_cases c3 : to_ > sm r
    ·rw [if_pos (.inr (.inr c3))]
     exact Ev.congr (fun k => if_pos c3) (Ev.now _)
    ·rw [if_neg (by omega)]
     refine Ev.congr (fun k => (if_neg c3).trans ((Option.bind_some _ _).trans (if_pos (by simp; omega)))) (Ev.bind (Ev.congr (fun k => rfl) (Part_l0 (m := mk l) (by omega) (by omega) (by omega) r [] [] 0 (Int.le_refl 0) (by omega) (fun x hx => by simp at hx) h.2.2.1 (by rw [don_0 (by omega) (by omega)]; rfl) (by simpa using h.1) (by simpa using h.1))) ?_)
     rw [List.nil_append]
     exact Ev.now _
 ·rw [if_neg c]
  exact Ev.congr (fun k => if_neg c) (Ev.now _)
theorem sameRuns_l0 : ∀ (post pre : List S48), (pre ++ post).length ≤ 140737488351232 → Ev (fun k => lw_sameRuns.l0 k (pre ++ post) (pre ++ post) (pre.length : Int)) true
 | [], pre, hl => by
  refine Ev.step (f := fun _ => some true) (fun k => ?_) (Ev.now _)
  simp only [lw_sameRuns.l0]
  rw [if_neg (by simp)]
 | x :: post, pre, hl => by
  have hlt := mid_lt pre post x
  have hn : pre.length ≤ 9223372036854775806 := by
   simp only [List.length_append, List.length_cons] at hl
   omega
  have ih := sameRuns_l0 post (pre ++ [x]) (by simpa using hl)
  rw [← mid_snoc] at ih
  refine Ev.step (fun k => ?_) ih
  simp only [lw_sameRuns.l0]
  rw [rd_mid, if_pos hlt, if_pos (by omega), if_pos hlt, if_neg (by simp), succ_mid _ _ hn]
theorem sameRuns_ev (l : List S48) (hl : l.length ≤ 140737488351232) : Ev (fun k => lw_sameRuns.f k l l) true := by
 refine Ev.congr (fun k => ?_) (sameRuns_l0 l [] (by simpa using hl))
 unfold lw_sameRuns.f
 rw [if_pos rfl]
 rfl
theorem equal_l0 (r : List S48) : ∀ (post pre : List ByteArray), (pre ++ post).length ≤ 140737488351232 → Ev (fun k => lw_equal.l0 k (pre.length : Int) (pre ++ post) r (pre ++ post) r) true
 | [], pre, hl => by
  refine Ev.step (f := fun _ => some true) (fun k => ?_) (Ev.now _)
  simp only [lw_equal.l0]
  rw [if_neg (by simp)]
 | x :: post, pre, hl => by
  have hlt := mids_lt pre post x
  have hn : pre.length ≤ 9223372036854775806 := by
   simp only [List.length_append, List.length_cons] at hl
   omega
  have ih := equal_l0 r post (pre ++ [x]) (by simpa using hl)
  rw [← mid_snoc] at ih
  refine Ev.step (fun k => ?_) ih
  simp only [lw_equal.l0]
  rw [if_pos hlt, if_pos (by omega), if_pos hlt, if_pos trivial, succ_mid _ _ hn]
theorem equal_ev (l : List ByteArray) (r : List S48) (hl : l.length ≤ 140737488351232) (hr : r.length ≤ 140737488351232) : Ev (fun k => lw_equal.f k l r l r) true := by
 refine Ev.congr (f := fun k => (lw_sameRuns.f k r r).bind fun t307 => (lw_equal.j0 k (!t307) l r l r)) (fun k => ?_) (Ev.bind (sameRuns_ev r hr) ?_)
 ·unfold lw_equal.f
  rw [if_pos rfl]
 ·refine Ev.step (fun k => ?_) (equal_l0 r l [] (by simpa using hl))
  simp only [lw_equal.j0]
  rw [if_neg (by decide)]
  rfl
theorem wrapN {n : Nat} (h : n < 9223372036854775808) : IntKind.i64.wrap (n : Int) = (n : Int) := by
 rw [IntKind.wrap_i64]
 omega
theorem ofIntN {n : Nat} (h : n < 9223372036854775808) : (BitVec.ofInt 64 (n : Int)).toNat = n := by
 rw [BitVec.toNat_ofInt]
 omega
theorem xorN {a b : Nat} (ha : a < 65536) (hb : b < 65536) : Go.bits .xor .i64 (a : Int) (b : Int) = ((a ^^^ b : Nat) : Int) := by
 have e1 : Go.bits .xor .i64 (a : Int) (b : Int) = IntKind.i64.wrap (((BitVec.ofInt 64 (a : Int) ^^^ BitVec.ofInt 64 (b : Int)).toNat : Nat) : Int) := rfl
 have h : a ^^^ b < 2 ^ 16 := Nat.xor_lt_two_pow (by omega) (by omega)
 rw [e1, BitVec.toNat_xor, ofIntN (by omega), ofIntN (by omega), wrapN (by omega)]
theorem bitN {a i : Nat} (ha : a < 65536) (hi : i < 64) : bit (a : Int) (i : Int) = if a.testBit i = true then 1 else 0 := by
 have e0 : shr .i64 (a : Int) (i : Int) = ((a / 2 ^ i : Nat) : Int) := by
  show (a : Int) / 2 ^ min ((i : Int).toNat) IntKind.i64.bits = _
  rw [Int.toNat_natCast, show IntKind.i64.bits = 64 from rfl, Nat.min_eq_left (by omega)]
  norm_cast
 have h1 : a / 2 ^ i ≤ a := Nat.div_le_self _ _
 have e1 : bit (a : Int) (i : Int) = IntKind.i64.wrap (((BitVec.ofInt 64 (shr .i64 (a : Int) (i : Int)) &&& BitVec.ofInt 64 1).toNat : Nat) : Int) := rfl
 have e2 : (BitVec.ofInt 64 1).toNat = 1 := rfl
 rw [e1, BitVec.toNat_and, e0, ofIntN (by omega), e2, Nat.and_one_is_mod, wrapN (by omega), Nat.testBit_eq_decide_div_mod_eq]
 by_cases c : a / 2 ^ i % 2 = 1
 ·rw [if_pos (by simpa using c), c]
  rfl
 ·rw [if_neg (by simpa using c), show a / 2 ^ i % 2 = 0 by omega]
  rfl
theorem bit_xor {a b i : Nat} (ha : a < 65536) (hb : b < 65536) (hi : i < 64) : bit (Go.bits .xor .i64 (a : Int) (b : Int)) (i : Int) = 1 ↔ ¬ bit (a : Int) (i : Int) = bit (b : Int) (i : Int) := by
 have h : a ^^^ b < 2 ^ 16 := Nat.xor_lt_two_pow (by omega) (by omega)
 rw [xorN ha hb, bitN (by omega) hi, bitN ha hi, bitN hb hi, Nat.testBit_xor]
 cases a.testBit i <;> cases b.testBit i <;> simp
theorem bit_xorI {a b i : Int} (ha : 0 ≤ a ∧ a < 65536) (hb : 0 ≤ b ∧ b < 65536) (hi : 0 ≤ i ∧ i < 64) : Go.bits .and .i64 (shr .i64 (Go.bits .xor .i64 a b) i) 1 = 1 ↔ ¬ bit a i = bit b i := by
 obtain ⟨a, rfl⟩ := Int.eq_ofNat_of_zero_le ha.1
 obtain ⟨b, rfl⟩ := Int.eq_ofNat_of_zero_le hb.1
 obtain ⟨i, rfl⟩ := Int.eq_ofNat_of_zero_le hi.1
 exact bit_xor (by omega) (by omega) (by omega)
theorem mk_le {l : List ByteArray} (h : l.length ≤ 16) : mk l ≤ 65535 := by
 obtain ⟨n, hn⟩ : ∃ n, n = l.length := ⟨_, rfl⟩
 unfold mk
 rw [← hn] at h ⊢
 clear hn
 have : ∀ n : Fin 17, wrap64 ((shl .i64 1 ((n.val : Nat) : Int)) - 1) ≤ 65535 := by decide +kernel
 exact this ⟨n, by omega⟩
def edI (at_ a b : Int) : Nat → Nat → List S42
 | 0, _ => []
 | m + 1, i => if bit a (i : Int) = bit b (i : Int) then edI at_ a b m (i + 1) else (⟨at_, (i : Int), bit b (i : Int)⟩ : S42) :: edI at_ a b m (i + 1)
def edO (n : Nat) : Int → Int → List S48 → List S42
 | _, _, [] => []
 | a, at_, x :: l => edI at_ a x.f0 n 0 ++ edO n x.f0 (at_ + x.f1) l
theorem edI_self (at_ a : Int) : ∀ (m i : Nat), edI at_ a a m i = []
 | 0, i => rfl
 | m + 1, i => by
  unfold edI
  rw [if_pos rfl]
  exact edI_self at_ a m (i + 1)
theorem edI_len (at_ a b : Int) : ∀ (m i : Nat), (edI at_ a b m i).length ≤ m
 | 0, i => by simp [edI]
 | m + 1, i => by
  have := edI_len at_ a b m (i + 1)
  unfold edI
  by_cases c : bit a (i : Int) = bit b (i : Int)
  ·rw [if_pos c]
   omega
  ·rw [if_neg c, List.length_cons]
   omega
theorem Edges_l1 (n : List ByteArray) (r xs : List S48) (len i : Int) (a at_ b t : Int) (R : List S42) (ha : 0 ≤ a ∧ a < 65536) (hb : 0 ≤ b ∧ b < 65536) (hn : n.length ≤ 16) :
  ∀ (m j : Nat) (o : List S42), j + m = n.length → o.length + m ≤ 5000000000000 → Ev (fun k => capture_Edges.l0 k (o ++ edI at_ a b m j) b (wrap64 (at_ + t)) xs len (wrap64 (i + 1)) n r) R →
  Ev (fun k => capture_Edges.l1 k o a at_ xs len i (n.length : Int) (j : Int) n r b t) R
 | 0, j, o, hj, ho, hR => by
  refine Ev.step (fun k => ?_) hR
  simp only [capture_Edges.l1]
  rw [if_neg (by omega)]
  simp only [edI, List.append_nil]
 | m + 1, j, o, hj, ho, hR => by
  have e : wrap64 ((j : Int) + 1) = ((j + 1 : Nat) : Int) := by
   rw [w64 (by omega) (by omega)]
   rfl
  have hx := bit_xorI (i := (j : Int)) ha hb (by omega)
  by_cases c : bit a (j : Int) = bit b (j : Int)
  ·have e1 : edI at_ a b (m + 1) j = edI at_ a b m (j + 1) := if_pos c
   rw [e1] at hR
   have ih := Edges_l1 n r xs len i a at_ b t R ha hb hn m (j + 1) o (by omega) (by omega) hR
   refine Ev.step (fun k => ?_) ih
   simp only [capture_Edges.l1]
   rw [if_pos (by omega), if_pos (by omega), if_neg (fun h => hx.1 h c), e]
  ·have e1 : edI at_ a b (m + 1) j = (⟨at_, (j : Int), bit b (j : Int)⟩ : S42) :: edI at_ a b m (j + 1) := if_neg c
   rw [e1, mid_snoc] at hR
   have ih := Edges_l1 n r xs len i a at_ b t R ha hb hn m (j + 1) (o ++ [⟨at_, (j : Int), bit b (j : Int)⟩]) (by omega) (by simp only [List.length_append, List.length_cons, List.length_nil]; omega) hR
   refine Ev.step (fun k => ?_) ih
   simp only [capture_Edges.l1]
   rw [if_pos (by omega), if_pos (by omega), if_pos (hx.2 c), if_pos (by omega), e]
   rfl
theorem Edges_l0 {m : Int} (n : List ByteArray) (r : List S48) (hn : n.length ≤ 16) (hm : m ≤ 65535) : ∀ (post pre : List S48) (o : List S42) (a at_ : Int), (0 ≤ a ∧ a < 65536) → 0 ≤ at_ → at_ + sm post ≤ 1099511627776 → RunsM m post → (pre ++ post).length ≤ 262144 → o.length + 16 * post.length ≤ 4000000000000 →
  Ev (fun k => capture_Edges.l0 k o a at_ (pre ++ post) ((pre ++ post).length : Int) (pre.length : Int) n r) (o ++ edO n.length a at_ post)
 | [], pre, o, a, at_, ha, h0, h1, hp, hl, ho => by
  rw [show o ++ edO n.length a at_ [] = o from List.append_nil o]
  refine Ev.step (f := fun _ => some o) (fun k => ?_) (Ev.now _)
  simp only [capture_Edges.l0]
  rw [if_neg (by simp)]
 | x :: post, pre, o, a, at_, ha, h0, h1, hp, hl, ho => by
  have hx := hp.cons
  have h3 := smM_nonneg hx.2
  simp only [sm] at h1
  simp only [List.length_cons] at ho
  have hlt := mid_lt pre post x
  have hnn : pre.length ≤ 9223372036854775806 := by
   simp only [List.length_append, List.length_cons] at hl
   omega
  have hle := edI_len at_ a x.f0 n.length 0
  have ih := Edges_l0 n r hn hm post (pre ++ [x]) (o ++ edI at_ a x.f0 n.length 0) x.f0 (at_ + x.f1) (by omega) (by omega) (by omega) hx.2 (by simpa using hl) (by simp only [List.length_append]; omega)
  rw [← mid_snoc] at ih
  have e : o ++ edO n.length a at_ (x :: post) = o ++ edI at_ a x.f0 n.length 0 ++ edO n.length x.f0 (at_ + x.f1) post := by
   rw [List.append_assoc]
   rfl
  rw [e]
  refine Ev.step (fun k => ?_) (Edges_l1 n r (pre ++ x :: post) ((pre ++ x :: post).length : Int) (pre.length : Int) a at_ x.f0 x.f1 _ ha (by omega) hn n.length 0 o (by omega) (by omega) ?_)
  ·simp only [capture_Edges.l0]
   rw [rd_mid, if_pos hlt, if_pos (by omega), if_pos hlt]
   rfl
  ·rw [w64 (x := at_ + x.f1) (by omega) (by omega), succ_mid _ _ hnn]
   exact ih
def edV (l : List ByteArray) (r : List S48) : List S42 := if chkV l r = 0 then (match r with | [] => [] | x :: rest => edO l.length x.f0 x.f1 rest) else []
theorem Edges_ev {l : List ByteArray} {r : List S48} (hs : StrsOk l) (hl : l.length ≤ 140737488351232) (hr : r.length ≤ 140737488351232) : Ev (fun k => capture_Edges.f k l r) (edV l r) := by
 have hj : Ev (fun k => capture_Edges.j0 k true l r) [] := Ev.step (f := fun _ => some []) (fun k => by simp only [capture_Edges.j0]; rfl) (Ev.now _)
 unfold edV
 refine Ev.bind (Check_ev hs hl hr) ?_
 by_cases c : chkV l r = 0
 ·have h := chk_0 c
  have h16 := nmsV_0 h.2.1
  rw [if_pos c]
  refine Ev.congr (fun k => if_pos c) ?_
  match r, h, hr, hj with
  | [], h, hr, hj => exact hj
  | x :: rest, h, hr, hj =>
   have hx := h.2.2.1.cons
   have hmk := mk_le h16.2
   have h2 := h.2.2.2
   have h3 := smM_nonneg hx.2
   have h4 := h.1
   simp only [List.length_cons] at h4
   rw [sm_cons] at h2
   have he := Edges_l0 (m := mk l) l (x :: rest) h16.2 hmk (x :: rest) [] [] x.f0 0 (by omega) (Int.le_refl 0) (by rw [sm_cons]; omega) h.2.2.1 (by simpa using h.1) (by simp only [List.length_cons, List.length_nil]; omega)
   have e : [] ++ edO l.length x.f0 0 (x :: rest) = edO l.length x.f0 x.f1 rest := by
    show edI 0 x.f0 x.f0 l.length 0 ++ edO l.length x.f0 (0 + x.f1) rest = _
    rw [edI_self, Int.zero_add]
    rfl
   rw [e] at he
   refine Ev.step (fun k => ?_) he
   have e0 : rd_T48 (x :: rest) 0 = x := rd_mid [] rest x
   rw [show (((x :: rest).length : Int) == 0) = false from beq_eq_false_iff_ne.2 (by simp only [List.length_cons]; omega)]
   simp only [capture_Edges.j0]
   rw [if_neg (by decide), if_pos (by simp only [List.length_cons]; omega), e0]
   rfl
 ·rw [if_neg c]
  exact Ev.congr (fun k => if_neg c) hj
theorem refEdges_l1 (n : List ByteArray) (w x : S48) (q post : List S48) (at_ : Int) (R : List S42) (hl : (q ++ w :: x :: post).length ≤ 262144) (hn : n.length ≤ 16) :
  ∀ (m j : Nat) (o : List S42), j + m = n.length → o.length + m ≤ 5000000000000 → Ev (fun k => rf_Edges.l0 k (o ++ edI at_ w.f0 x.f0 m j) at_ (wrap64 (((q ++ [w]).length : Int) + 1)) n (q ++ w :: x :: post)) R →
  Ev (fun k => rf_Edges.l1 k o at_ ((q ++ [w]).length : Int) (j : Int) n (q ++ w :: x :: post)) R
 | 0, j, o, hj, ho, hR => by
  refine Ev.step (fun k => ?_) hR
  simp only [rf_Edges.l1]
  rw [if_neg (by omega)]
  simp only [edI, List.append_nil]
 | m + 1, j, o, hj, ho, hR => by
  have e : wrap64 ((j : Int) + 1) = ((j + 1 : Nat) : Int) := by
   rw [w64 (by omega) (by omega)]
   rfl
  have hlw : (q.length : Int) < ((q ++ w :: x :: post).length : Int) := mid_lt q (x :: post) w
  have hlx : ((q ++ [w]).length : Int) < ((q ++ w :: x :: post).length : Int) := by
   rw [mid_snoc q (x :: post) w]
   exact mid_lt (q ++ [w]) post x
  have eq1 : wrap64 (((q ++ [w]).length : Int) - 1) = (q.length : Int) := last_at q w (by simp only [List.length_append, List.length_cons] at hl; omega)
  have ew : rd_T48 (q ++ w :: x :: post) (q.length : Int) = w := rd_mid q (x :: post) w
  have ex : rd_T48 (q ++ w :: x :: post) ((q ++ [w]).length : Int) = x := by
   rw [mid_snoc q (x :: post) w]
   exact rd_mid (q ++ [w]) post x
  have hst : ∀ k, rf_Edges.l1 (k + 1) o at_ ((q ++ [w]).length : Int) (j : Int) n (q ++ w :: x :: post) = if bit w.f0 (j : Int) = bit x.f0 (j : Int) then rf_Edges.l1 k o at_ ((q ++ [w]).length : Int) ((j + 1 : Nat) : Int) n (q ++ w :: x :: post) else rf_Edges.l1 k (o ++ [(⟨at_, (j : Int), bit x.f0 (j : Int)⟩ : S42)]) at_ ((q ++ [w]).length : Int) ((j + 1 : Nat) : Int) n (q ++ w :: x :: post) := by
   intro k
   simp only [rf_Edges.l1]
   rw [eq1, ew, ex, e, if_pos (by omega), if_pos (by omega), if_pos hlw, if_pos (by omega), if_pos (by omega), if_pos hlx, if_pos (show o.length < 5864062014805 by omega)]
   rfl
  by_cases c : bit w.f0 (j : Int) = bit x.f0 (j : Int)
  ·have e1 : edI at_ w.f0 x.f0 (m + 1) j = edI at_ w.f0 x.f0 m (j + 1) := if_pos c
   rw [e1] at hR
   exact Ev.step (fun k => (hst k).trans (if_pos c)) (refEdges_l1 n w x q post at_ R hl hn m (j + 1) o (by omega) (by omega) hR)
  ·have e1 : edI at_ w.f0 x.f0 (m + 1) j = (⟨at_, (j : Int), bit x.f0 (j : Int)⟩ : S42) :: edI at_ w.f0 x.f0 m (j + 1) := if_neg c
   rw [e1, mid_snoc] at hR
   exact Ev.step (fun k => (hst k).trans (if_neg c)) (refEdges_l1 n w x q post at_ R hl hn m (j + 1) (o ++ [⟨at_, (j : Int), bit x.f0 (j : Int)⟩]) (by omega) (by simp only [List.length_append, List.length_cons, List.length_nil]; omega) hR)
theorem refEdges_l0 {m : Int} (n : List ByteArray) (hn : n.length ≤ 16) : ∀ (post q : List S48) (w : S48) (o : List S42) (at_ : Int), 0 ≤ at_ → 0 ≤ w.f1 → at_ + w.f1 + sm post ≤ 1099511627776 → RunsM m post → (q ++ w :: post).length ≤ 262144 → o.length + 16 * post.length ≤ 4000000000000 →
  Ev (fun k => rf_Edges.l0 k o at_ ((q ++ [w]).length : Int) n (q ++ w :: post)) (o ++ edO n.length w.f0 (at_ + w.f1) post)
 | [], q, w, o, at_, h0, hw, h1, hp, hl, ho => by
  rw [show o ++ edO n.length w.f0 (at_ + w.f1) [] = o from List.append_nil o]
  refine Ev.step (f := fun _ => some o) (fun k => ?_) (Ev.now _)
  simp only [rf_Edges.l0]
  rw [if_neg (by simp)]
 | x :: post, q, w, o, at_, h0, hw, h1, hp, hl, ho => by
  have hx := hp.cons
  have h3 := smM_nonneg hx.2
  simp only [sm] at h1
  simp only [List.length_cons] at ho
  have hlw : (q.length : Int) < ((q ++ w :: x :: post).length : Int) := mid_lt q (x :: post) w
  have hlx : ((q ++ [w]).length : Int) < ((q ++ w :: x :: post).length : Int) := by
   rw [mid_snoc q (x :: post) w]
   exact mid_lt (q ++ [w]) post x
  have hq : q.length ≤ 262144 := by
   simp only [List.length_append, List.length_cons] at hl
   omega
  have eq1 : wrap64 (((q ++ [w]).length : Int) - 1) = (q.length : Int) := last_at q w (by omega)
  have ew : rd_T48 (q ++ w :: x :: post) (q.length : Int) = w := rd_mid q (x :: post) w
  have hle := edI_len (at_ + w.f1) w.f0 x.f0 n.length 0
  have ih := refEdges_l0 n hn post (q ++ [w]) x (o ++ edI (at_ + w.f1) w.f0 x.f0 n.length 0) (at_ + w.f1) (by omega) (by omega) (by omega) hx.2 (by rw [← mid_snoc q (x :: post) w]; exact hl) (by simp only [List.length_append]; omega)
  rw [← mid_snoc q (x :: post) w] at ih
  have e : o ++ edO n.length w.f0 (at_ + w.f1) (x :: post) = o ++ edI (at_ + w.f1) w.f0 x.f0 n.length 0 ++ edO n.length x.f0 (at_ + w.f1 + x.f1) post := by
   rw [List.append_assoc]
   rfl
  rw [e]
  refine Ev.step (fun k => ?_) (refEdges_l1 n w x q post (at_ + w.f1) _ hl hn n.length 0 o (by omega) (by omega) ?_)
  ·simp only [rf_Edges.l0]
   rw [eq1, ew, if_pos hlx, if_pos (by omega), if_pos hlw, w64 (x := at_ + w.f1) (by omega) (by omega)]
   rfl
  ·rw [succ_mid (q ++ [w]) x (by simp only [List.length_append, List.length_cons, List.length_nil]; omega)]
   exact ih
theorem refEdges_ev {l : List ByteArray} {r : List S48} (hs : StrsOk l) (hl : l.length ≤ 140737488351232) (hr : r.length ≤ 140737488351232) : Ev (fun k => rf_Edges.f k l r) (edV l r) := by
 unfold edV
 refine Ev.congr (f := fun k => (rf_Good.f k l r).bind fun t534 => (if t534 = true then (rf_Edges.l0 k [] 0 1 l r) else (some []))) (fun k => rfl) (Ev.bind (refGood_ev hs hl hr) ?_)
 by_cases c : chkV l r = 0
 ·have h := chk_0 c
  have h16 := nmsV_0 h.2.1
  rw [if_pos c]
  refine Ev.congr (fun k => if_pos (beq_iff_eq.2 c)) ?_
  match r, h with
  | [], h =>
   refine Ev.step (f := fun _ => some []) (fun k => ?_) (Ev.now _)
   simp only [rf_Edges.l0]
   rw [if_neg (by simp)]
  | x :: rest, h =>
   have hx := h.2.2.1.cons
   have h2 := h.2.2.2
   have h4 := h.1
   simp only [List.length_cons] at h4
   rw [sm_cons] at h2
   have he := refEdges_l0 (m := mk l) l h16.2 rest [] x [] 0 (Int.le_refl 0) (by omega) (by omega) hx.2 (by simpa using h.1) (by simp only [List.length_nil]; omega)
   rw [Int.zero_add] at he
   exact he
 ·rw [if_neg c]
  exact Ev.congr (fun k => if_neg (fun h => c (beq_iff_eq.1 h))) (Ev.now _)
theorem rdk_mid (pre post : List S42) (x : S42) : rd_T42 (pre ++ x :: post) (pre.length : Int) = x := by simp [rd_T42, List.getD]
theorem midk_lt (pre post : List S42) (x : S42) : (pre.length : Int) < ((pre ++ x :: post).length : Int) := by
 simp only [List.length_append, List.length_cons]
 omega
theorem Reads_l0 : ∀ (post pre : List S42), (pre ++ post).length ≤ 140737488351232 → Ev (fun k => lw_CaptureReads.l0 k (pre ++ post) (pre ++ post) (pre.length : Int)) true
 | [], pre, hl => by
  refine Ev.step (f := fun _ => some true) (fun k => ?_) (Ev.now _)
  simp only [lw_CaptureReads.l0]
  rw [if_neg (by simp)]
 | x :: post, pre, hl => by
  have hlt := midk_lt pre post x
  have hn : pre.length ≤ 9223372036854775806 := by
   simp only [List.length_append, List.length_cons] at hl
   omega
  have ih := Reads_l0 post (pre ++ [x]) (by simpa using hl)
  rw [← mid_snoc] at ih
  refine Ev.step (fun k => ?_) ih
  simp only [lw_CaptureReads.l0]
  rw [rdk_mid, if_pos hlt, if_pos (by omega), if_pos hlt, if_neg (by simp), succ_mid _ _ hn]
theorem edK_len (n : Nat) : ∀ (l : List S48) (a at_ : Int), (edO n a at_ l).length ≤ n * l.length
 | [], a, at_ => by simp [edO]
 | x :: l, a, at_ => by
  have h1 := edI_len at_ a x.f0 n 0
  have h2 := edK_len n l x.f0 (at_ + x.f1)
  show (edI at_ a x.f0 n 0 ++ edO n x.f0 (at_ + x.f1) l).length ≤ _
  rw [List.length_append, List.length_cons, Nat.mul_succ]
  omega
theorem edV_len (l : List ByteArray) (r : List S48) (hf : l.length ≤ 100 ∧ r.length ≤ 2000) : (edV l r).length ≤ 140737488351232 := by
 unfold edV
 by_cases c : chkV l r = 0
 ·rw [if_pos c]
  match r, hf with
  | [], hf => simp
  | x :: rest, hf =>
   have h1 := edK_len l.length rest x.f0 x.f1
   have h2 : l.length * rest.length ≤ 100 * rest.length := Nat.mul_le_mul_right _ hf.1
   have h3 := hf.2
   simp only [List.length_cons] at h3
   show (edO l.length x.f0 x.f1 rest).length ≤ _
   omega
 ·rw [if_neg c]
  simp
theorem slV_len (l : List ByteArray) (r : List S48) (a b : Int) (hf : l.length ≤ 100 ∧ r.length ≤ 2000) : (slV l r a b).1.length ≤ 140737488351232 ∧ (slV l r a b).2.1.length ≤ 140737488351232 := by
 unfold slV
 by_cases c : chkV l r = 0
 ·rw [if_pos c]
  by_cases c1 : a < 0 ∨ a ≥ b ∨ b > sm r
  ·rw [if_pos c1]
   simp
  ·rw [if_neg c1]
   have h := chk_0 c
   have hk := slC_ok (m := mk l) (from_ := a) (to_ := b) (by omega) (by omega) r [] 0 (Int.le_refl 0) (fun x hx => by simp at hx) h.2.2.1 (by rw [don_0 (by omega) (by omega)]; rfl)
   have h2 := hk.2.2
   simp only [List.length_nil] at h2
   exact ⟨(by show l.length ≤ _; omega), (by show (slC a b 0 [] r).length ≤ _; omega)⟩
 ·rw [if_neg c]
  simp
theorem chV_len (l : List ByteArray) (r : List S48) (s : ByteArray) (hf : l.length ≤ 100 ∧ r.length ≤ 2000) : (chV l r s).1.length ≤ 140737488351232 := by
 unfold chV
 by_cases c : chkV l r = 0
 ·rw [if_pos c]
  by_cases c1 : ixS s 0 l < 0
  ·rw [if_pos c1]
   simp
  ·rw [if_neg c1]
   have h2 := chC_len (ixS s 0 l) r []
   simp only [List.length_nil] at h2
   show (chC (ixS s 0 l) [] r).length ≤ _
   omega
 ·rw [if_neg c]
  simp
theorem CaptureReads_pure {l : List ByteArray} {r : List S48} {s : ByteArray} {a b : Int} (hs : StrsOk l) : ∃ k, lw_CaptureReads.f k l r s a b = some true := by
 refine Ev.rounds (Ev.bind lives09_ev (Ev.congr (fun k => if_pos rfl) ?_))
 rw [few09_eq]
 refine Ev.congr (fun k => Option.bind_some _ _) ?_
 by_cases c : fewV l r = true
 ·have hf : l.length ≤ 100 ∧ r.length ≤ 2000 := of_decide_eq_true c
  have hl : l.length ≤ 140737488351232 := by omega
  have hr : r.length ≤ 140737488351232 := by omega
  refine Ev.congr (fun k => if_pos c) (Ev.bind (Channel_ev hs hl hr) (Ev.bind (refChannel_ev hs hl hr) (Ev.bind (Slice_ev hs hl hr) (Ev.bind (refSlice_ev hs hl hr) (Ev.bind (sameRuns_ev _ (chV_len l r s hf)) ?_)))))
  refine Ev.congr (fun k => (if_pos rfl).trans (if_pos rfl)) (Ev.bind (equal_ev _ _ (slV_len l r a b hf).1 (slV_len l r a b hf).2) ?_)
  refine Ev.congr (fun k => if_pos rfl) ?_
  rw [show ((slV l r a b).2.2 != (slV l r a b).2.2) = false from bne_self_eq_false _]
  refine Ev.step (f := fun k => (capture_Edges.f k l r).bind fun t570 => ((rf_Edges.f k l r).bind fun t573 => (if (t570.length : Int) = (t573.length : Int) then (lw_CaptureReads.l0 k t570 t573 0) else (some false)))) (fun k => ?_) (Ev.bind (Edges_ev hs hl hr) (Ev.bind (refEdges_ev hs hl hr) ?_))
  ·simp only [lw_CaptureReads.j0]
   rw [if_neg (by decide)]
  ·exact Ev.congr (fun k => if_pos rfl) (Reads_l0 (edV l r) [] (by simpa using edV_len l r hf))
 ·exact Ev.congr (fun k => if_neg c) (Ev.now _)
end Go.Proofs.Yteafkdadpdofjaa
