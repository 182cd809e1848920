/- The law RemapRenames as a plain statement on numbers and lists: with enough rounds it answers true; conditions: each number is one of its kind, no list or string is longer than its memory allows. -/
import Derived.Laws.BitsAllLaws
import Derived.WalkKit
import Derived.Test.YtllpgidmdomfcaaWMore
import Derived.Laws.Strings
import Derived.Test.YtllpgidmdomfcaaQx0
import Derived.Test.YtllpgidmdomfcaaQx2
import Derived.Test.YtllpgidmdomfcaaQx3
import Derived.Test.YtllpgidmdomfcaaQx4
import Derived.Test.YtllpgidmdomfcaaQx5
import Derived.Test.YtllpgidmdomfcaaQx6
import Derived.Test.YtllpgidmdomfcaaQx7
import Derived.Test.YtllpgidmdomfcaaQx8
import Derived.Test.YtllpgidmdomfcaaQx9
import Derived.Test.YtllpgidmdomfcaaQx10
import Derived.Test.YtllpgidmdomfcaaQx11
import Derived.Test.YtllpgidmdomfcaaQx12
import Derived.Test.YtllpgidmdomfcaaQx15
import Derived.Test.YtllpgidmdomfcaaQx16
import Derived.Test.YtllpgidmdomfcaaQx17
namespace Go.Proofs.Ytllpgidmdomfcaa
open Go Go.RowKit Go.Proofs.YtllpgidmdomfcaaW.PrintWords Go.Proofs.YtllpgidmdomfcaaW.PrintLast Go.Proofs.Ytllpgidmdomfcaa.Q
set_option linter.unusedVariables false
theorem w64 {x : Int} (h0 : -9223372036854775808 ≤ x) (h1 : x ≤ 9223372036854775807) : wrap64 x = x := by
  unfold wrap64
  omega
theorem succ_mid {α : Type} (pre : List α) (x : α) (h : pre.length ≤ 9223372036854775806) : wrap64 ((pre.length : Int) + 1) = ((pre ++ [x]).length : Int) := by
  rw [w64 (by omega) (by omega)]
  simp
theorem mid_snoc {α : Type} (pre post : List α) (x : α) : pre ++ x :: post = (pre ++ [x]) ++ post := by simp
def sm : List S48 → Int
  | [] => 0
  | x :: l => x.f1 + sm l
def RunsOk (l : List S48) : Prop := ∀ x ∈ l, (x.f0 = 0 ∨ x.f0 = 1) ∧ 1 ≤ x.f1
theorem rd_mid (pre post : List S48) (x : S48) : rd_T48 (pre ++ x :: post) (pre.length : Int) = x := by simp [rd_T48, List.getD]
theorem mid_lt (pre post : List S48) (x : S48) : (pre.length : Int) < ((pre ++ x :: post).length : Int) := by
  simp only [List.length_append, List.length_cons]
  omega
theorem RunsOk.cons {x : S48} {l : List S48} (h : RunsOk (x :: l)) : ((x.f0 = 0 ∨ x.f0 = 1) ∧ 1 ≤ x.f1) ∧ RunsOk l := ⟨h x (by simp), fun y hy => h y (by simp [hy])⟩
theorem RunsOk.left {a b : List S48} (h : RunsOk (a ++ b)) : RunsOk a := fun x hx => h x (List.mem_append_left _ hx)
theorem RunsOk.right {a b : List S48} (h : RunsOk (a ++ b)) : RunsOk b := fun x hx => h x (List.mem_append_right _ hx)
def wd (c : Int) : Bool := if 97 ≤ c ∧ c ≤ 122 then true else if 48 ≤ c ∧ c ≤ 57 then true else if c = 95 then true else false
def wAll (s : ByteArray) : Nat → Nat → Bool
  | 0, _ => true
  | m + 1, i => if wd (bt s (i : Int)) = true then wAll s m (i + 1) else false
def nmOk (s : ByteArray) : Bool := if s.size = 0 then false else if 16 < s.size then false else if 97 ≤ bt s 0 ∧ bt s 0 ≤ 122 then wAll s s.size 0 else false
theorem w32 {x : Int} (h0 : 0 ≤ x) (h1 : x ≤ 255) : wrap32 x = x := by
  unfold wrap32
  omega
theorem nil_iff (s : ByteArray) : s.toList = ([] : List UInt8) ↔ s.size = 0 := by
  rw [ByteArray.toList_eq, ← List.length_eq_zero_iff, data_length]
theorem wd_1 {c : Int} (h : 97 ≤ c ∧ c ≤ 122) : wd c = true := by
  unfold wd
  rw [if_pos h]
theorem wd_2 {c : Int} (h : 48 ≤ c ∧ c ≤ 57) : wd c = true := by
  unfold wd
  rw [if_neg (by omega), if_pos h]
theorem wd_3 {c : Int} (h : c = 95) : wd c = true := by
  unfold wd
  rw [if_neg (by omega), if_neg (by omega), if_pos h]
theorem wd_0 {c : Int} (h : ¬ (97 ≤ c ∧ c ≤ 122)) (h1 : ¬ (48 ≤ c ∧ c ≤ 57)) (h2 : ¬ c = 95) : wd c = false := by
  unfold wd
  rw [if_neg h, if_neg h1, if_neg h2]
theorem lex_letter_eq (c : Int) : lex_letter.f c = some (decide (97 ≤ c ∧ c ≤ 122)) := by
  unfold lex_letter.f
  by_cases h : 97 ≤ c <;> simp [h]
theorem lex_word_eq (c : Int) : lex_word.f c = some (wd c) := by
  unfold lex_word.f lex_digit.f wd
  rw [lex_letter_eq]
  by_cases h : 97 ≤ c ∧ c ≤ 122
  · simp [h]
  · by_cases h1 : 48 ≤ c
    · by_cases h2 : c ≤ 57
      · simp [h, h1, h2]
      · by_cases h3 : c = 95 <;> simp [h, h1, h2, h3]
    · by_cases h3 : c = 95 <;> simp [h, h1, h3]
theorem lex_Name_l0 (s : ByteArray) (hs : s.size ≤ 140737488351232) : ∀ (m i : Nat), i + m = s.size → Ev (fun k => lex_Name.l0 k s (s.size : Int) (i : Int)) (wAll s m i)
  | 0, i, h => by
    refine Ev.step (f := fun _ => some true) (fun k => ?_) (Ev.now _)
    simp only [lex_Name.l0]
    rw [if_neg (by omega)]
  | m + 1, i, h => by
    have hb := bt_range s (i : Int)
    have hst : ∀ k, lex_Name.l0 (k + 1) s (s.size : Int) (i : Int) = if wd (bt s (i : Int)) = true then lex_Name.l0 k s (s.size : Int) ((i + 1 : Nat) : Int) else some false := by
      intro k
      simp only [lex_Name.l0]
      rw [if_pos (by omega), if_pos (by omega), if_pos (by omega), lex_word_eq, w32 hb.1 hb.2, Option.bind_some, w64 (by omega) (by omega)]
      rfl
    unfold wAll
    by_cases c : wd (bt s (i : Int)) = true
    · rw [if_pos c]
      exact Ev.step (fun k => (hst k).trans (if_pos c)) (lex_Name_l0 s hs m (i + 1) (by omega))
    · rw [if_neg c]
      exact Ev.step (fun k => (hst k).trans (if_neg c)) (Ev.now _)
theorem lex_Name_ev (s : ByteArray) (hs : s.size ≤ 140737488351232) : Ev (fun k => lex_Name.f k s) (nmOk s) := by
  have hb := bt_range s 0
  have hj : Ev (fun k => lex_Name.j0 k s true) false := Ev.step (f := fun _ => some false) (fun k => by simp only [lex_Name.j0]; rfl) (Ev.now _)
  unfold nmOk
  by_cases h0 : s.size = 0
  · rw [if_pos h0]
    refine Ev.congr (fun k => ?_) hj
    unfold lex_Name.f
    rw [if_pos ((nil_iff s).2 h0)]
  · rw [if_neg h0]
    have hn : ¬ s.toList = [] := fun h => h0 ((nil_iff s).1 h)
    by_cases h1 : 16 < s.size
    · rw [if_pos h1]
      refine Ev.congr (fun k => ?_) hj
      unfold lex_Name.f
      rw [if_neg hn, if_pos (by omega)]
    · rw [if_neg h1]
      have e : ∀ k, lex_Name.f k s = lex_Name.j0 k s (!(decide (97 ≤ bt s 0 ∧ bt s 0 ≤ 122))) := by
        intro k
        unfold lex_Name.f
        rw [if_neg hn, if_neg (by omega), if_pos (by omega), lex_letter_eq, w32 hb.1 hb.2]
        rfl
      refine Ev.congr e ?_
      by_cases h2 : 97 ≤ bt s 0 ∧ bt s 0 ≤ 122
      · rw [if_pos h2, decide_eq_true h2]
        refine Ev.step (fun k => ?_) (lex_Name_l0 s hs s.size 0 (by omega))
        simp only [lex_Name.j0]
        rw [if_neg (by decide)]
        rfl
      · rw [if_neg h2, decide_eq_false h2]
        exact hj
theorem ref_name_step (s : ByteArray) (hs : s.size ≤ 140737488351232) (i : Nat) (h : i < s.size) (k : Nat) :
    signalbenchref09_name.l0 (k + 1) s (i : Int) = if wd (bt s (i : Int)) = true then signalbenchref09_name.l0 k s ((i + 1 : Nat) : Int) else some false := by
  have e : wrap64 ((i : Int) + 1) = ((i + 1 : Nat) : Int) := by
    rw [w64 (by omega) (by omega)]
    rfl
  simp only [signalbenchref09_name.l0]
  rw [if_pos (by omega), if_pos (by omega), e]
  generalize bt s (i : Int) = c
  by_cases h1 : c ≥ 97
  · by_cases h2 : c ≤ 122
    · rw [if_pos h1, if_pos (by omega), if_pos h2, wd_1 ⟨h1, h2⟩, if_pos rfl]
    · rw [if_pos h1, if_pos (by omega), if_neg h2, if_neg (by omega), if_neg (by omega), wd_0 (by omega) (by omega) (by omega), if_neg (by decide)]
  · rw [if_neg h1]
    by_cases h3 : c ≥ 48
    · rw [if_pos h3]
      by_cases h4 : c ≤ 57
      · rw [if_pos h4, wd_2 ⟨h3, h4⟩, if_pos rfl]
      · rw [if_neg h4]
        by_cases h5 : c = 95
        · rw [if_pos h5, wd_3 h5, if_pos rfl]
        · rw [if_neg h5, wd_0 (by omega) (by omega) h5, if_neg (by decide)]
    · rw [if_neg h3]
      by_cases h5 : c = 95
      · rw [if_pos h5, wd_3 h5, if_pos rfl]
      · rw [if_neg h5, wd_0 (by omega) (by omega) h5, if_neg (by decide)]
theorem ref_name_l0 (s : ByteArray) (hs : s.size ≤ 140737488351232) : ∀ (m i : Nat), i + m = s.size → Ev (fun k => signalbenchref09_name.l0 k s (i : Int)) (wAll s m i)
  | 0, i, h => by
    refine Ev.step (f := fun _ => some true) (fun k => ?_) (Ev.now _)
    simp only [signalbenchref09_name.l0]
    rw [if_neg (by omega)]
  | m + 1, i, h => by
    have hst := ref_name_step s hs i (by omega)
    unfold wAll
    by_cases c : wd (bt s (i : Int)) = true
    · rw [if_pos c]
      exact Ev.step (fun k => (hst k).trans (if_pos c)) (ref_name_l0 s hs m (i + 1) (by omega))
    · rw [if_neg c]
      exact Ev.step (fun k => (hst k).trans (if_neg c)) (Ev.now _)
theorem ref_name_ev (s : ByteArray) (hs : s.size ≤ 140737488351232) : Ev (fun k => signalbenchref09_name.f k s) (nmOk s) := by
  have hj : Ev (fun k => signalbenchref09_name.j0 k s true) false := Ev.step (f := fun _ => some false) (fun k => by simp only [signalbenchref09_name.j0]; rfl) (Ev.now _)
  unfold nmOk
  by_cases h0 : s.size = 0
  · rw [if_pos h0]
    refine Ev.congr (fun k => ?_) hj
    unfold signalbenchref09_name.f
    rw [if_pos ((nil_iff s).2 h0)]
  · rw [if_neg h0]
    have hn : ¬ s.toList = [] := fun h => h0 ((nil_iff s).1 h)
    by_cases h1 : 16 < s.size
    · rw [if_pos h1]
      refine Ev.congr (fun k => ?_) hj
      unfold signalbenchref09_name.f
      rw [if_neg hn, if_pos (by omega)]
    · rw [if_neg h1]
      by_cases h3 : bt s 0 < 97
      · rw [if_neg (by omega)]
        refine Ev.congr (fun k => ?_) hj
        unfold signalbenchref09_name.f
        rw [if_neg hn, if_neg (by omega), if_pos (by omega), if_pos h3]
      · have e : ∀ k, signalbenchref09_name.f k s = signalbenchref09_name.j0 k s (decide (bt s 0 > 122)) := by
          intro k
          unfold signalbenchref09_name.f
          rw [if_neg hn, if_neg (by omega), if_pos (by omega), if_neg h3]
        refine Ev.congr e ?_
        by_cases h2 : bt s 0 > 122
        · rw [if_neg (by omega), decide_eq_true h2]
          exact hj
        · rw [if_pos (by omega), decide_eq_false h2]
          refine Ev.step (fun k => ?_) (ref_name_l0 s hs s.size 0 (by omega))
          simp only [signalbenchref09_name.j0]
          rw [if_neg (by decide)]
          rfl
def StrsOk (l : List ByteArray) : Prop := ∀ s ∈ l, s.size ≤ 140737488351232
def nmA : List ByteArray → Bool
  | [] => true
  | s :: l => if nmOk s = true then nmA l else false
theorem rds_mid (pre post : List ByteArray) (x : ByteArray) : rdOf ByteArray.empty (pre ++ x :: post) (pre.length : Int) = x := by simp [rdOf, List.getD]
theorem mids_lt (pre post : List ByteArray) (x : ByteArray) : (pre.length : Int) < ((pre ++ x :: post).length : Int) := by
  simp only [List.length_append, List.length_cons]
  omega
/-- The first place of a name, or -1. -/
def ixS (s : ByteArray) : Nat → List ByteArray → Int
  | _, [] => -1
  | n, t :: l => if s.toList = t.toList then (n : Int) else ixS s (n + 1) l
theorem ixS_ge : ∀ (s : ByteArray) (l : List ByteArray) (n : Nat), ixS s n l = -1 ∨ (n : Int) ≤ ixS s n l ∧ ixS s n l < ((n + l.length : Nat) : Int)
  | s, [], n => .inl rfl
  | s, t :: l, n => by
    unfold ixS
    by_cases c : s.toList = t.toList
    · rw [if_pos c]
      right
      simp only [List.length_cons]
      omega
    · rw [if_neg c]
      have := ixS_ge s l (n + 1)
      simp only [List.length_cons]
      omega
theorem Index_l0 (s : ByteArray) : ∀ (post pre : List ByteArray), (pre ++ post).length ≤ 140737488351232 →
    Ev (fun k => slices_Index_string.l0 k (pre ++ post) s ((pre ++ post).length : Int) (pre.length : Int)) (ixS s pre.length post)
  | [], pre, hl => by
    refine Ev.step (f := fun _ => some (-1)) (fun k => ?_) (Ev.now _)
    simp only [slices_Index_string.l0]
    rw [if_neg (by simp)]
  | x :: post, pre, hl => by
    have hlt := mids_lt pre post x
    have hn : pre.length ≤ 9223372036854775806 := by
      simp only [List.length_append, List.length_cons] at hl
      omega
    have hst : ∀ k, slices_Index_string.l0 (k + 1) (pre ++ x :: post) s ((pre ++ x :: post).length : Int) (pre.length : Int) = if s.toList = x.toList then some (pre.length : Int) else slices_Index_string.l0 k (pre ++ x :: post) s ((pre ++ x :: post).length : Int) ((pre ++ [x]).length : Int) := by
      intro k
      simp only [slices_Index_string.l0]
      rw [rds_mid, if_pos hlt, if_pos (by omega), if_pos hlt, succ_mid _ _ hn]
    unfold ixS
    by_cases c : s.toList = x.toList
    · rw [if_pos c]
      exact Ev.step (fun k => (hst k).trans (if_pos c)) (Ev.now _)
    · rw [if_neg c]
      have ih := Index_l0 s post (pre ++ [x]) (by simpa using hl)
      rw [← mid_snoc] at ih
      have e : (pre ++ [x]).length = pre.length + 1 := by simp
      rw [e] at ih
      refine Ev.step (fun k => (hst k).trans (if_neg c)) ?_
      rw [e]
      exact ih
theorem Index_ev (l : List ByteArray) (s : ByteArray) (hl : l.length ≤ 140737488351232) : Ev (fun k => slices_Index_string.f k l s) (ixS s 0 l) := Ev.congr (fun k => rfl) (Index_l0 s l [] (by simpa using hl))
theorem Contains_ev (l : List ByteArray) (s : ByteArray) (hl : l.length ≤ 140737488351232) : Ev (fun k => slices_Contains_string.f k l s) (decide (ixS s 0 l ≥ 0)) := Ev.bind (Index_ev l s hl) (Ev.now _)
def dupS : List ByteArray → List ByteArray → Bool
  | _, [] => false
  | pre, x :: post => if ixS x 0 pre ≥ 0 then true else dupS (pre ++ [x]) post
def nmsV (l : List ByteArray) : Int := if 16 < l.length then 6 else if l.length = 0 then 1 else if nmA l = true then (if dupS [] l = true then 9 else 0) else 4
theorem checkNames_l1 : ∀ (post pre : List ByteArray), (pre ++ post).length ≤ 140737488351232 →
    Ev (fun k => capture_checkNames.l1 k (pre ++ post) (pre ++ post) ((pre ++ post).length : Int) (pre.length : Int)) (if dupS pre post = true then 9 else 0)
  | [], pre, hl => by
    refine Ev.step (f := fun _ => some 0) (fun k => ?_) ?_
    · simp only [capture_checkNames.l1]
      rw [if_neg (by simp)]
    · rw [show (if dupS pre [] = true then (9 : Int) else 0) = 0 from rfl]
      exact Ev.now _
  | x :: post, pre, hl => by
    have hlt := mids_lt pre post x
    have hn : pre.length ≤ 9223372036854775806 := by
      simp only [List.length_append, List.length_cons] at hl
      omega
    have hp : pre.length ≤ 140737488351232 := by
      simp only [List.length_append, List.length_cons] at hl
      omega
    have hst : ∀ k, capture_checkNames.l1 (k + 1) (pre ++ x :: post) (pre ++ x :: post) ((pre ++ x :: post).length : Int) (pre.length : Int) = (slices_Contains_string.f k pre x).bind fun t111 => (if t111 = true then (some 9) else (capture_checkNames.l1 k (pre ++ x :: post) (pre ++ x :: post) ((pre ++ x :: post).length : Int) ((pre ++ [x]).length : Int))) := by
      intro k
      simp only [capture_checkNames.l1]
      rw [rds_mid, if_pos hlt, if_pos (by omega), if_pos hlt, if_pos (by omega), succ_mid _ _ hn, Int.toNat_natCast, List.take_left' rfl]
    refine Ev.step hst (Ev.bind (Contains_ev pre x hp) ?_)
    unfold dupS
    by_cases c : ixS x 0 pre ≥ 0
    · rw [if_pos c, decide_eq_true c]
      exact Ev.congr (fun k => if_pos rfl) (Ev.now _)
    · rw [if_neg c, decide_eq_false c]
      have ih := checkNames_l1 post (pre ++ [x]) (by simpa using hl)
      rw [← mid_snoc] at ih
      exact Ev.congr (fun k => if_neg (by decide)) ih
theorem checkNames_l0 : ∀ (post pre : List ByteArray) (R : Int), StrsOk post → (pre ++ post).length ≤ 140737488351232 → Ev (fun k => capture_checkNames.l1 k (pre ++ post) (pre ++ post) ((pre ++ post).length : Int) 0) R →
    Ev (fun k => capture_checkNames.l0 k (pre ++ post) (pre ++ post) ((pre ++ post).length : Int) (pre.length : Int)) (if nmA post = true then R else 4)
  | [], pre, R, hs, hl, hR => by
    refine Ev.step (fun k => ?_) (Ev.congr (fun k => rfl) hR)
    simp only [capture_checkNames.l0]
    rw [if_neg (by simp)]
  | x :: post, pre, R, hs, hl, hR => by
    have hlt := mids_lt pre post x
    have hn : pre.length ≤ 9223372036854775806 := by
      simp only [List.length_append, List.length_cons] at hl
      omega
    have hst : ∀ k, capture_checkNames.l0 (k + 1) (pre ++ x :: post) (pre ++ x :: post) ((pre ++ x :: post).length : Int) (pre.length : Int) = (lex_Name.f k x).bind fun t108 => (if t108 = true then (capture_checkNames.l0 k (pre ++ x :: post) (pre ++ x :: post) ((pre ++ x :: post).length : Int) ((pre ++ [x]).length : Int)) else (some 4)) := by
      intro k
      simp only [capture_checkNames.l0]
      rw [rds_mid, if_pos hlt, if_pos (by omega), if_pos hlt, succ_mid _ _ hn]
    refine Ev.step hst (Ev.bind (lex_Name_ev x (hs x (by simp))) ?_)
    unfold nmA
    by_cases c : nmOk x = true
    · rw [if_pos c, c]
      have ih := checkNames_l0 post (pre ++ [x]) R (fun y hy => hs y (by simp [hy])) (by simpa using hl) (by rw [← mid_snoc]; exact hR)
      rw [← mid_snoc] at ih
      exact Ev.congr (fun k => if_pos rfl) ih
    · rw [if_neg c, Bool.eq_false_iff.2 c]
      exact Ev.congr (fun k => if_neg (by decide)) (Ev.now _)
theorem checkNames_ev {l : List ByteArray} (hs : StrsOk l) (hl : l.length ≤ 140737488351232) (h16 : l.length ≤ 16) : Ev (fun k => capture_checkNames.f k l) (nmsV l) := by
  unfold nmsV
  rw [if_neg (by omega)]
  by_cases c : l.length = 0
  · rw [if_pos c]
    refine Ev.congr (fun k => ?_) (Ev.now _)
    unfold capture_checkNames.f
    rw [if_pos (by omega)]
  · rw [if_neg c]
    refine Ev.congr (fun k => ?_) (checkNames_l0 l [] _ hs (by simpa using hl) (checkNames_l1 l [] (by simpa using hl)))
    unfold capture_checkNames.f
    rw [if_neg (by omega)]
    rfl
theorem refnames_l2 (x : ByteArray) (post pre : List ByteArray) (R : Int) (hl : (pre ++ x :: post).length ≤ 140737488351232) (hR : Ev (fun k => signalbenchref09_names.l1 k (pre ++ x :: post) ((pre ++ [x]).length : Int)) R) :
    ∀ (p q : List ByteArray), pre = q ++ p → Ev (fun k => signalbenchref09_names.l2 k (pre ++ x :: post) (pre.length : Int) (q.length : Int)) (if ixS x q.length p ≥ 0 then 9 else R)
  | [], q, e => by
    have e1 : pre.length = q.length := by rw [e]; simp
    have hn : pre.length ≤ 9223372036854775806 := by
      simp only [List.length_append, List.length_cons] at hl
      omega
    rw [show (if ixS x q.length [] ≥ 0 then (9 : Int) else R) = R from if_neg (by show ¬ ((-1 : Int) ≥ 0); omega)]
    refine Ev.step (fun k => ?_) hR
    simp only [signalbenchref09_names.l2]
    rw [if_neg (by omega), succ_mid _ _ hn]
  | t :: p, q, e => by
    have e1 : pre.length = q.length + (p.length + 1) := by rw [e]; simp
    have hlt := mids_lt pre post x
    have e2 : rdOf ByteArray.empty (pre ++ x :: post) (q.length : Int) = t := by
      rw [e, List.append_assoc]
      exact rds_mid q (p ++ x :: post) t
    have hn : q.length ≤ 9223372036854775806 := by
      simp only [List.length_append, List.length_cons] at hl
      omega
    have hst : ∀ k, signalbenchref09_names.l2 (k + 1) (pre ++ x :: post) (pre.length : Int) (q.length : Int) = if x.toList = t.toList then some 9 else signalbenchref09_names.l2 k (pre ++ x :: post) (pre.length : Int) ((q ++ [t]).length : Int) := by
      intro k
      simp only [signalbenchref09_names.l2]
      rw [rds_mid, e2, if_pos (by omega), if_pos (by omega), if_pos hlt, if_pos (by omega), if_pos (by omega), succ_mid _ _ hn]
    unfold ixS
    by_cases c : x.toList = t.toList
    · rw [if_pos c, if_pos (by omega)]
      exact Ev.step (fun k => (hst k).trans (if_pos c)) (Ev.now _)
    · rw [if_neg c]
      have ih := refnames_l2 x post pre R hl hR p (q ++ [t]) (by rw [e, mid_snoc])
      have e3 : (q ++ [t]).length = q.length + 1 := by simp
      rw [e3] at ih
      refine Ev.step (fun k => (hst k).trans (if_neg c)) ?_
      rw [e3]
      exact ih
theorem refnames_l1 : ∀ (post pre : List ByteArray), (pre ++ post).length ≤ 140737488351232 →
    Ev (fun k => signalbenchref09_names.l1 k (pre ++ post) (pre.length : Int)) (if dupS pre post = true then 9 else 0)
  | [], pre, hl => by
    refine Ev.step (f := fun _ => some 0) (fun k => ?_) ?_
    · simp only [signalbenchref09_names.l1]
      rw [if_neg (by simp)]
    · rw [show (if dupS pre [] = true then (9 : Int) else 0) = 0 from rfl]
      exact Ev.now _
  | x :: post, pre, hl => by
    have hlt := mids_lt pre post x
    have ih := refnames_l1 post (pre ++ [x]) (by simpa using hl)
    rw [← mid_snoc] at ih
    have h2 := refnames_l2 x post pre _ hl ih pre [] rfl
    have e : (if dupS pre (x :: post) = true then (9 : Int) else 0) = if ixS x ([] : List ByteArray).length pre ≥ 0 then 9 else if dupS (pre ++ [x]) post = true then 9 else 0 := by
      show (if (if ixS x 0 pre ≥ 0 then true else dupS (pre ++ [x]) post) = true then (9 : Int) else 0) = if ixS x 0 pre ≥ 0 then 9 else _
      by_cases c : ixS x 0 pre ≥ 0
      · rw [if_pos c, if_pos c, if_pos rfl]
      · rw [if_neg c, if_neg c]
    rw [e]
    refine Ev.step (fun k => ?_) h2
    simp only [signalbenchref09_names.l1]
    rw [if_pos hlt]
    rfl
theorem refnames_l0 : ∀ (post pre : List ByteArray) (R : Int), StrsOk post → (pre ++ post).length ≤ 140737488351232 → Ev (fun k => signalbenchref09_names.l1 k (pre ++ post) 0) R →
    Ev (fun k => signalbenchref09_names.l0 k (pre ++ post) (pre.length : Int)) (if nmA post = true then R else 4)
  | [], pre, R, hs, hl, hR => by
    refine Ev.step (fun k => ?_) (Ev.congr (fun k => rfl) hR)
    simp only [signalbenchref09_names.l0]
    rw [if_neg (by simp)]
  | x :: post, pre, R, hs, hl, hR => by
    have hlt := mids_lt pre post x
    have hn : pre.length ≤ 9223372036854775806 := by
      simp only [List.length_append, List.length_cons] at hl
      omega
    have hst : ∀ k, signalbenchref09_names.l0 (k + 1) (pre ++ x :: post) (pre.length : Int) = (signalbenchref09_name.f k x).bind fun t108 => (if t108 = true then (signalbenchref09_names.l0 k (pre ++ x :: post) ((pre ++ [x]).length : Int)) else (some 4)) := by
      intro k
      simp only [signalbenchref09_names.l0]
      rw [rds_mid, if_pos hlt, if_pos (by omega), succ_mid _ _ hn]
    refine Ev.step hst (Ev.bind (ref_name_ev x (hs x (by simp))) ?_)
    unfold nmA
    by_cases c : nmOk x = true
    · rw [if_pos c, c]
      have ih := refnames_l0 post (pre ++ [x]) R (fun y hy => hs y (by simp [hy])) (by simpa using hl) (by rw [← mid_snoc]; exact hR)
      rw [← mid_snoc] at ih
      exact Ev.congr (fun k => if_pos rfl) ih
    · rw [if_neg c, Bool.eq_false_iff.2 c]
      exact Ev.congr (fun k => if_neg (by decide)) (Ev.now _)
theorem refnames_ev {l : List ByteArray} (hs : StrsOk l) (hl : l.length ≤ 140737488351232) : Ev (fun k => signalbenchref09_names.f k l) (nmsV l) := by
  unfold nmsV
  by_cases h : 16 < l.length
  · rw [if_pos h]
    refine Ev.congr (fun k => ?_) (Ev.now _)
    unfold signalbenchref09_names.f
    rw [if_pos (by omega)]
  · rw [if_neg h]
    by_cases c : l.length = 0
    · rw [if_pos c]
      refine Ev.congr (fun k => ?_) (Ev.now _)
      unfold signalbenchref09_names.f
      rw [if_neg (by omega), if_pos (by omega)]
    · rw [if_neg c]
      refine Ev.congr (fun k => ?_) (refnames_l0 l [] _ hs (by simpa using hl) (refnames_l1 l [] (by simpa using hl)))
      unfold signalbenchref09_names.f
      rw [if_neg (by omega), if_neg (by omega)]
      rfl
theorem nmsV_0 {l : List ByteArray} (h : nmsV l = 0) : 1 ≤ l.length ∧ l.length ≤ 16 := by
  unfold nmsV at h
  by_cases c : 16 < l.length
  · rw [if_pos c] at h
    omega
  · rw [if_neg c] at h
    by_cases c1 : l.length = 0
    · rw [if_pos c1] at h
      omega
    · omega
/-- Levels from 0 to m, and at least one tick each. -/
def RunsM (m : Int) (l : List S48) : Prop := ∀ x ∈ l, 0 ≤ x.f0 ∧ x.f0 ≤ m ∧ 1 ≤ x.f1
def rOk (m : Int) : Int → List S48 → Bool
  | left, [] => true
  | left, x :: l => if 0 ≤ x.f0 ∧ x.f0 ≤ m ∧ 1 ≤ x.f1 ∧ x.f1 ≤ left then rOk m (left - x.f1) l else false
theorem RunsM.cons {m : Int} {x : S48} {l : List S48} (h : RunsM m (x :: l)) : (0 ≤ x.f0 ∧ x.f0 ≤ m ∧ 1 ≤ x.f1) ∧ RunsM m l := ⟨h x (by simp), fun y hy => h y (by simp [hy])⟩
theorem smM_nonneg {m : Int} : ∀ {l : List S48}, RunsM m l → 0 ≤ sm l
  | [], _ => Int.le_refl _
  | x :: l, h => by
    have h1 := h.cons
    have h2 := smM_nonneg h1.2
    simp only [sm]
    omega
theorem rOk_iff {m : Int} : ∀ {l : List S48} {left : Int}, 0 ≤ left → (rOk m left l = true ↔ RunsM m l ∧ sm l ≤ left)
  | [], left, h => by simp [rOk, RunsM, sm, h]
  | x :: l, left, h => by
    unfold rOk
    by_cases c : 0 ≤ x.f0 ∧ x.f0 ≤ m ∧ 1 ≤ x.f1 ∧ x.f1 ≤ left
    · rw [if_pos c, rOk_iff (l := l) (by omega)]
      simp only [RunsM, sm, List.mem_cons, forall_eq_or_imp]
      constructor
      · rintro ⟨h1, h2⟩
        exact ⟨⟨⟨c.1, c.2.1, c.2.2.1⟩, h1⟩, by omega⟩
      · rintro ⟨⟨h1, h2⟩, h3⟩
        exact ⟨h2, by omega⟩
    · rw [if_neg c]
      simp only [Bool.false_eq_true, false_iff]
      rintro ⟨h1, h2⟩
      have h3 := h1.cons
      have h4 := smM_nonneg h3.2
      simp only [sm] at h2
      exact c ⟨h3.1.1, h3.1.2.1, h3.1.2.2, by omega⟩
def mk (l : List ByteArray) : Int := wrap64 ((shl .i64 1 (l.length : Int)) - 1)
def chkV (l : List ByteArray) (r : List S48) : Int := if 262144 < r.length then 6 else if nmsV l = 0 then (if rOk (mk l) 1099511627776 r = true then 0 else 2) else nmsV l
theorem chk_0 {l : List ByteArray} {r : List S48} (h : chkV l r = 0) : r.length ≤ 262144 ∧ nmsV l = 0 ∧ RunsM (mk l) r ∧ sm r ≤ 1099511627776 := by
  unfold chkV at h
  by_cases c : 262144 < r.length
  · rw [if_pos c] at h
    omega
  · rw [if_neg c] at h
    by_cases c1 : nmsV l = 0
    · rw [if_pos c1] at h
      by_cases c2 : rOk (mk l) 1099511627776 r = true
      · exact ⟨by omega, c1, (rOk_iff (by omega)).1 c2⟩
      · rw [if_neg c2] at h
        omega
    · rw [if_neg c1] at h
      exact absurd h c1
theorem Check_l0 (m : Int) : ∀ (post pre : List S48) (left : Int), 0 ≤ left → left ≤ 1099511627776 → (pre ++ post).length ≤ 140737488351232 →
    Ev (fun k => capture_Check.l0 k m left (pre ++ post) ((pre ++ post).length : Int) (pre.length : Int)) (if rOk m left post = true then 0 else 2)
  | [], pre, left, h0, h1, hl => by
    rw [show (if rOk m left [] = true then (0 : Int) else 2) = 0 from rfl]
    refine Ev.step (f := fun _ => some 0) (fun k => ?_) (Ev.now _)
    simp only [capture_Check.l0]
    rw [if_neg (by simp)]
  | x :: post, pre, left, h0, h1, hl => by
    have hlt := mid_lt pre post x
    have hn : pre.length ≤ 9223372036854775806 := by
      simp only [List.length_append, List.length_cons] at hl
      omega
    unfold rOk
    by_cases c : 0 ≤ x.f0 ∧ x.f0 ≤ m ∧ 1 ≤ x.f1 ∧ x.f1 ≤ left
    · have ih := Check_l0 m post (pre ++ [x]) (left - x.f1) (by omega) (by omega) (by simpa using hl)
      rw [← mid_snoc] at ih
      rw [if_pos c]
      refine Ev.step (fun k => ?_) ih
      simp only [capture_Check.l0]
      rw [rd_mid, if_pos hlt, if_pos (by omega), if_pos hlt, if_neg (by omega), if_neg (by omega), if_neg (by omega), if_neg (by omega), w64 (by omega) (by omega), succ_mid _ _ hn]
    · rw [if_neg c, show (if false = true then (0 : Int) else 2) = 2 from rfl]
      refine Ev.step (f := fun _ => some 2) (fun k => ?_) (Ev.now _)
      simp only [capture_Check.l0]
      rw [rd_mid, if_pos hlt, if_pos (by omega), if_pos hlt]
      by_cases c1 : x.f0 < 0
      · rw [if_pos c1]
      · rw [if_neg c1]
        by_cases c2 : x.f0 > m
        · rw [if_pos c2]
        · rw [if_neg c2]
          by_cases c3 : x.f1 < 1
          · rw [if_pos c3]
          · rw [if_neg c3, if_pos (by omega)]
theorem Check_ev {l : List ByteArray} {r : List S48} (hs : StrsOk l) (hl : l.length ≤ 140737488351232) (hr : r.length ≤ 140737488351232) : Ev (fun k => capture_Check.f k l r) (chkV l r) := by
  have hj : Ev (fun k => capture_Check.j0 k true l r) 6 := Ev.step (f := fun _ => some 6) (fun k => by simp only [capture_Check.j0]; rfl) (Ev.now _)
  by_cases c : 16 < l.length
  · have e : chkV l r = 6 := by
      have e1 : nmsV l = 6 := by
        unfold nmsV
        rw [if_pos c]
      unfold chkV
      rw [e1]
      by_cases c1 : 262144 < r.length
      · rw [if_pos c1]
      · rw [if_neg c1]
        rfl
    rw [e]
    refine Ev.congr (fun k => ?_) hj
    unfold capture_Check.f
    rw [if_pos (by omega)]
  · have e : ∀ k, capture_Check.f k l r = capture_Check.j0 k (decide ((r.length : Int) > 262144)) l r := by
      intro k
      unfold capture_Check.f
      rw [if_neg (by omega)]
    refine Ev.congr e ?_
    unfold chkV
    by_cases c1 : 262144 < r.length
    · rw [if_pos c1, decide_eq_true (by omega)]
      exact hj
    · rw [if_neg c1, decide_eq_false (by omega)]
      refine Ev.step (f := fun k => (capture_checkNames.f k l).bind fun t113 => (if t113 = 0 then (capture_Check.l0 k (mk l) 1099511627776 r (r.length : Int) 0) else (some t113))) (fun k => ?_) (Ev.bind (checkNames_ev hs hl (by omega)) ?_)
      · simp only [capture_Check.j0]
        rw [if_neg (by decide)]
        rfl
      · by_cases c2 : nmsV l = 0
        · rw [if_pos c2]
          exact Ev.congr (fun k => if_pos c2) (Check_l0 (mk l) r [] 1099511627776 (by omega) (by omega) (by simpa using hr))
        · rw [if_neg c2]
          exact Ev.congr (fun k => if_neg c2) (Ev.now _)
theorem refruns_l0 (m : Int) : ∀ (post pre : List S48) (left : Int), 0 ≤ left → left ≤ 1099511627776 → (pre ++ post).length ≤ 140737488351232 →
    Ev (fun k => signalbenchref09_runs.l0 k (pre ++ post) m left (pre.length : Int)) (rOk m left post)
  | [], pre, left, h0, h1, hl => by
    refine Ev.step (f := fun _ => some true) (fun k => ?_) (Ev.now _)
    simp only [signalbenchref09_runs.l0]
    rw [if_neg (by simp)]
  | x :: post, pre, left, h0, h1, hl => by
    have hlt := mid_lt pre post x
    have hn : pre.length ≤ 9223372036854775806 := by
      simp only [List.length_append, List.length_cons] at hl
      omega
    unfold rOk
    by_cases c : 0 ≤ x.f0 ∧ x.f0 ≤ m ∧ 1 ≤ x.f1 ∧ x.f1 ≤ left
    · have ih := refruns_l0 m post (pre ++ [x]) (left - x.f1) (by omega) (by omega) (by simpa using hl)
      rw [← mid_snoc] at ih
      rw [if_pos c]
      refine Ev.step (fun k => ?_) ih
      simp only [signalbenchref09_runs.l0]
      rw [rd_mid, if_pos hlt, if_pos (by omega), if_neg (by omega), if_neg (by omega), if_neg (by omega), if_neg (by omega), w64 (by omega) (by omega), succ_mid _ _ hn]
    · rw [if_neg c]
      refine Ev.step (f := fun _ => some false) (fun k => ?_) (Ev.now _)
      simp only [signalbenchref09_runs.l0]
      rw [rd_mid, if_pos hlt, if_pos (by omega)]
      by_cases c1 : x.f0 < 0
      · rw [if_pos c1]
      · rw [if_neg c1]
        by_cases c2 : x.f0 > m
        · rw [if_pos c2]
        · rw [if_neg c2]
          by_cases c3 : x.f1 < 1
          · rw [if_pos c3]
          · rw [if_neg c3, if_pos (by omega)]
theorem refruns_ev (m : Int) {r : List S48} (hr : r.length ≤ 140737488351232) : Ev (fun k => signalbenchref09_runs.f k r m) (rOk m 1099511627776 r) :=
  Ev.congr (fun k => rfl) (refruns_l0 m r [] 1099511627776 (by omega) (by omega) (by simpa using hr))
theorem refCheck_ev {l : List ByteArray} {r : List S48} (hs : StrsOk l) (hl : l.length ≤ 140737488351232) (hr : r.length ≤ 140737488351232) : Ev (fun k => signalbenchref09_Check.f k l r) (chkV l r) := by
  unfold chkV
  by_cases c1 : 262144 < r.length
  · rw [if_pos c1]
    refine Ev.congr (fun k => ?_) (Ev.now _)
    unfold signalbenchref09_Check.f
    rw [if_pos (by omega)]
  · rw [if_neg c1]
    refine Ev.congr (f := fun k => (signalbenchref09_names.f k l).bind fun t216 => (if t216 = 0 then ((signalbenchref09_runs.f k r (mk l)).bind fun t217 => (if t217 = true then (some 0) else (some 2))) else (some t216))) (fun k => ?_) (Ev.bind (refnames_ev hs hl) ?_)
    · unfold signalbenchref09_Check.f
      rw [if_neg (by omega)]
      rfl
    · by_cases c2 : nmsV l = 0
      · rw [if_pos c2]
        refine Ev.congr (fun k => if_pos c2) (Ev.bind (refruns_ev (mk l) hr) ?_)
        by_cases c3 : rOk (mk l) 1099511627776 r = true
        · simp only [if_pos c3]
          exact Ev.now _
        · simp only [if_neg c3]
          exact Ev.now _
      · rw [if_neg c2]
        exact Ev.congr (fun k => if_neg c2) (Ev.now _)
theorem refGood_ev {l : List ByteArray} {r : List S48} (hs : StrsOk l) (hl : l.length ≤ 140737488351232) (hr : r.length ≤ 140737488351232) : Ev (fun k => signalbenchref09_Good.f k l r) (chkV l r == 0) :=
  Ev.bind (refCheck_ev hs hl hr) (Ev.now _)
def Tk (l : List S48) : Prop := ∀ y ∈ l, 1 ≤ y.f1
theorem Tk.cons {x : S48} {l : List S48} (h : Tk (x :: l)) : 1 ≤ x.f1 ∧ Tk l := ⟨h x (by simp), fun y hy => h y (by simp [hy])⟩
theorem lives12_ev : Ev (fun k => signalbenchlaw12_lives.f k) true := Ev.of (k := 60) (fun k => signalbenchlaw12_lives.mono k) (by decide +kernel)
def fewV12 (l : List ByteArray) (r : List S48) : Bool := decide (l.length ≤ 60 ∧ r.length ≤ 500)
theorem few12_eq (l : List ByteArray) (r : List S48) : signalbenchlaw12_few.f l r = some (fewV12 l r) := by
  unfold signalbenchlaw12_few.f fewV12
  by_cases c : l.length ≤ 60
  · rw [if_pos (by omega)]
    by_cases c1 : r.length ≤ 500
    · rw [decide_eq_true (by omega), decide_eq_true ⟨c, c1⟩]
    · rw [decide_eq_false (by omega), decide_eq_false (fun h => c1 h.2)]
  · rw [if_neg (by omega), decide_eq_false (fun h => c h.1)]
theorem equal12_l1 (l : List ByteArray) : ∀ (post pre : List S48), (pre ++ post).length ≤ 140737488351232 → Ev (fun k => signalbenchlaw12_equal.l1 k (pre.length : Int) l (pre ++ post) l (pre ++ post)) true
  | [], pre, hl => by
    refine Ev.step (f := fun _ => some true) (fun k => ?_) (Ev.now _)
    simp only [signalbenchlaw12_equal.l1]
    rw [if_neg (by simp)]
  | x :: post, pre, hl => by
    have hlt := mid_lt pre post x
    have hn : pre.length ≤ 9223372036854775806 := by
      simp only [List.length_append, List.length_cons] at hl
      omega
    have ih := equal12_l1 l post (pre ++ [x]) (by simpa using hl)
    rw [← mid_snoc] at ih
    refine Ev.step (fun k => ?_) ih
    simp only [signalbenchlaw12_equal.l1]
    rw [rd_mid, if_pos hlt, if_pos (by omega), if_pos hlt, if_neg (by simp), succ_mid _ _ hn]
theorem equal12_l0 (r : List S48) (hr : r.length ≤ 140737488351232) : ∀ (post pre : List ByteArray), (pre ++ post).length ≤ 140737488351232 → Ev (fun k => signalbenchlaw12_equal.l0 k (pre.length : Int) (pre ++ post) r (pre ++ post) r) true
  | [], pre, hl => by
    refine Ev.step (fun k => ?_) (equal12_l1 (pre ++ []) r [] (by simpa using hr))
    simp only [signalbenchlaw12_equal.l0]
    rw [if_neg (by simp)]
    rfl
  | x :: post, pre, hl => by
    have hlt := mids_lt pre post x
    have hn : pre.length ≤ 9223372036854775806 := by
      simp only [List.length_append, List.length_cons] at hl
      omega
    have ih := equal12_l0 r hr post (pre ++ [x]) (by simpa using hl)
    rw [← mid_snoc] at ih
    refine Ev.step (fun k => ?_) ih
    simp only [signalbenchlaw12_equal.l0]
    rw [if_pos hlt, if_pos (by omega), if_pos hlt, if_pos trivial, succ_mid _ _ hn]
theorem equal12_ev (l : List ByteArray) (r : List S48) (hl : l.length ≤ 140737488351232) (hr : r.length ≤ 140737488351232) : Ev (fun k => signalbenchlaw12_equal.f k l r l r) true := by
  refine Ev.congr (f := fun k => signalbenchlaw12_equal.j0 k ((r.length : Int) != (r.length : Int)) l r l r) (fun k => ?_) ?_
  · unfold signalbenchlaw12_equal.f
    rw [if_pos rfl]
  · rw [bne_self_eq_false]
    refine Ev.step (fun k => ?_) (equal12_l0 r hr l [] (by simpa using hl))
    simp only [signalbenchlaw12_equal.j0]
    rw [if_neg (by decide)]
    rfl
theorem clone_str {l : List ByteArray} (h : l.length ≤ 140737488351) : slices_Clone_string.f l = some l := by
  unfold slices_Clone_string.f
  rw [if_pos (by omega)]
theorem data_toList (a : ByteArray) : a.toList = a.data.toList := by simp [ByteArray.toList_eq]
def tw (l : List ByteArray) : Bool := l.any (fun s => decide (1 < remap_twice.n s.data.toList l))
theorem twice_eq {l : List ByteArray} (hs : StrsOk l) (hl : l.length ≤ 140737488351232) : remap_twice.f l = some (tw l) := by
  unfold remap_twice.f
  rw [if_pos (List.all_eq_true.2 (fun s h => decide_eq_true (hs s h))), if_pos hl]
  rfl
theorem ixS_mem (s : ByteArray) : ∀ (l : List ByteArray) (n : Nat), ixS s n l ≥ 0 ↔ ∃ y ∈ l, s.toList = y.toList
  | [], n => by
    simp only [ixS, List.not_mem_nil, false_and, exists_false, iff_false]
    omega
  | t :: l, n => by
    unfold ixS
    by_cases c : s.toList = t.toList
    · rw [if_pos c]
      exact ⟨fun _ => ⟨t, by simp, c⟩, fun _ => by omega⟩
    · rw [if_neg c, ixS_mem s l (n + 1)]
      constructor
      · rintro ⟨y, hy, e⟩
        exact ⟨y, by simp [hy], e⟩
      · rintro ⟨y, hy, e⟩
        rcases List.mem_cons.1 hy with rfl | hy
        · exact absurd e c
        · exact ⟨y, hy, e⟩
theorem tw_snoc {pre : List ByteArray} {x : ByteArray} (h : tw pre = false) : tw (pre ++ [x]) = decide (ixS x 0 pre ≥ 0) := by
  have e1 : ∀ s, remap_twice.n s (pre ++ [x]) = remap_twice.n s pre + (if x.data.toList = s then 1 else 0) := by
    intro s
    rw [remap_twice.n_app]
    simp [remap_twice.n]
  by_cases c : ixS x 0 pre ≥ 0
  · rw [decide_eq_true c]
    obtain ⟨y, hy, e⟩ := (ixS_mem x pre 0).1 c
    have h1 := remap_twice.mem_n hy
    rw [← data_toList y, ← e, data_toList] at h1
    unfold tw
    rw [List.any_eq_true]
    refine ⟨x, by simp, decide_eq_true ?_⟩
    rw [e1, if_pos rfl]
    omega
  · rw [decide_eq_false c]
    have hno : ∀ y ∈ pre, ¬ x.data.toList = y.data.toList := by
      intro y hy e
      exact c ((ixS_mem x pre 0).2 ⟨y, hy, by rw [data_toList, data_toList, e]⟩)
    unfold tw at h ⊢
    rw [List.any_eq_false] at h ⊢
    intro s hs
    rw [e1]
    simp only [decide_eq_true_eq]
    rcases List.mem_append.1 hs with hs | hs
    · have h1 := h s hs
      simp only [decide_eq_true_eq] at h1
      rw [if_neg (hno s hs)]
      omega
    · rw [List.mem_singleton] at hs
      subst hs
      have h0 : remap_twice.n s.data.toList pre = 0 := by
        apply Classical.byContradiction
        intro hne
        obtain ⟨y, hy, e⟩ := remap_twice.n_mem (s := s.data.toList) (l := pre) (by omega)
        exact hno y hy e.symm
      rw [h0]
      split <;> omega
theorem place12_l0 (s : ByteArray) : ∀ (post pre : List ByteArray), (pre ++ post).length ≤ 140737488351232 →
    Ev (fun k => signalbenchref12_place.l0 k (pre ++ post) s (pre.length : Int)) (ixS s pre.length post)
  | [], pre, hl => by
    refine Ev.step (f := fun _ => some (-1)) (fun k => ?_) (Ev.now _)
    simp only [signalbenchref12_place.l0]
    rw [if_neg (by simp)]
  | x :: post, pre, hl => by
    have hlt := mids_lt pre post x
    have hn : pre.length ≤ 9223372036854775806 := by
      simp only [List.length_append, List.length_cons] at hl
      omega
    have hst : ∀ k, signalbenchref12_place.l0 (k + 1) (pre ++ x :: post) s (pre.length : Int) = if x.toList = s.toList then some (pre.length : Int) else signalbenchref12_place.l0 k (pre ++ x :: post) s ((pre ++ [x]).length : Int) := by
      intro k
      simp only [signalbenchref12_place.l0]
      rw [rds_mid, if_pos hlt, if_pos (by omega), succ_mid _ _ hn]
    unfold ixS
    by_cases c : s.toList = x.toList
    · rw [if_pos c]
      exact Ev.step (fun k => (hst k).trans (if_pos c.symm)) (Ev.now _)
    · rw [if_neg c]
      have ih := place12_l0 s post (pre ++ [x]) (by simpa using hl)
      rw [← mid_snoc] at ih
      have e : (pre ++ [x]).length = pre.length + 1 := by simp
      rw [e] at ih
      refine Ev.step (fun k => (hst k).trans (if_neg (fun h => c h.symm))) ?_
      rw [e]
      exact ih
theorem place12_ev (l : List ByteArray) (s : ByteArray) (hl : l.length ≤ 140737488351232) : Ev (fun k => signalbenchref12_place.f k l s) (ixS s 0 l) := Ev.congr (fun k => rfl) (place12_l0 s l [] (by simpa using hl))
theorem tw_preR {a b : List ByteArray} (h : tw (a ++ b) = false) : tw a = false ∧ tw b = false := by
  unfold tw at h ⊢
  rw [List.any_eq_false] at h ⊢
  rw [List.any_eq_false]
  refine ⟨fun s hs => ?_, fun s hs => ?_⟩
  · have h1 := h s (List.mem_append.2 (.inl hs))
    rw [remap_twice.n_app] at h1
    simp only [decide_eq_true_eq] at h1 ⊢
    omega
  · have h1 := h s (List.mem_append.2 (.inr hs))
    rw [remap_twice.n_app] at h1
    simp only [decide_eq_true_eq] at h1 ⊢
    omega
theorem tw_notR {pre post : List ByteArray} {x : ByteArray} (h : tw (pre ++ x :: post) = false) : ∀ y ∈ pre, ¬ x.toList = y.toList := by
  rw [mid_snoc] at h
  have h1 := (tw_preR h).1
  have h2 := (tw_preR h1).1
  rw [tw_snoc h2] at h1
  intro y hy e
  have h3 := (ixS_mem x pre 0).2 ⟨y, hy, e⟩
  have := of_decide_eq_false h1
  omega
def nd : List ByteArray → Prop
  | [] => True
  | x :: l => (∀ y ∈ l, ¬ x.toList = y.toList) ∧ nd l
theorem nd_of : ∀ {l : List ByteArray}, tw l = false → nd l
  | [], _ => trivial
  | x :: l, h => by
    refine ⟨fun y hy e => ?_, nd_of (tw_preR (a := [x]) h).2⟩
    obtain ⟨l1, l2, rfl⟩ := List.append_of_mem hy
    exact tw_notR (pre := x :: l1) h x (by simp) e.symm
theorem tw_nd : ∀ (post pre : List ByteArray), tw pre = false → (∀ x ∈ post, ∀ y ∈ pre, ¬ x.toList = y.toList) → nd post → tw (pre ++ post) = false
  | [], pre, h, _, _ => by rw [List.append_nil]; exact h
  | x :: post, pre, h, h1, h2 => by
    rw [mid_snoc]
    refine tw_nd post (pre ++ [x]) ?_ (fun z hz y hy => ?_) h2.2
    · rw [tw_snoc h]
      refine decide_eq_false (fun h3 => ?_)
      obtain ⟨y, hy, e⟩ := (ixS_mem x pre 0).1 h3
      exact h1 x (by simp) y hy e
    · rcases List.mem_append.1 hy with hy | hy
      · exact h1 z (by simp [hz]) y hy
      · rw [List.mem_singleton] at hy
        subst hy
        exact fun e => h2.1 z hz e.symm
theorem nd_app : ∀ (a b : List ByteArray), nd (a ++ b) ↔ nd a ∧ nd b ∧ ∀ x ∈ a, ∀ y ∈ b, ¬ x.toList = y.toList
  | [], b => ⟨fun h => ⟨trivial, h, fun x hx => by simp at hx⟩, fun h => h.2.1⟩
  | x :: a, b => by
    have ih := nd_app a b
    show ((∀ y ∈ a ++ b, ¬ x.toList = y.toList) ∧ nd (a ++ b)) ↔ ((∀ y ∈ a, ¬ x.toList = y.toList) ∧ nd a) ∧ nd b ∧ _
    rw [ih]
    constructor
    · rintro ⟨h1, h2, h3, h4⟩
      refine ⟨⟨fun y hy => h1 y (by simp [hy]), h2⟩, h3, fun z hz y hy => ?_⟩
      rcases List.mem_cons.1 hz with rfl | hz
      · exact h1 y (by simp [hy])
      · exact h4 z hz y hy
    · rintro ⟨⟨h1, h2⟩, h3, h4⟩
      refine ⟨fun y hy => ?_, h2, h3, fun z hz y hy => h4 z (by simp [hz]) y hy⟩
      rcases List.mem_append.1 hy with hy | hy
      · exact h1 y hy
      · exact h4 x (by simp) y hy
theorem ixS_cases (s : ByteArray) : ∀ (l : List ByteArray) (n : Nat), (ixS s n l = -1 ∧ ∀ y ∈ l, ¬ s.toList = y.toList) ∨ ∃ pre x post, l = pre ++ x :: post ∧ ixS s n l = ((n + pre.length : Nat) : Int) ∧ s.toList = x.toList ∧ ∀ y ∈ pre, ¬ s.toList = y.toList
  | [], n => .inl ⟨rfl, fun y hy => by simp at hy⟩
  | x :: l, n => by
    unfold ixS
    by_cases c : s.toList = x.toList
    · rw [if_pos c]
      exact .inr ⟨[], x, l, rfl, rfl, c, fun y hy => by simp at hy⟩
    · rw [if_neg c]
      rcases ixS_cases s l (n + 1) with ⟨h1, h2⟩ | ⟨pre, y, post, h1, h2, h3, h4⟩
      · refine .inl ⟨h1, fun y hy => ?_⟩
        rcases List.mem_cons.1 hy with rfl | hy
        · exact c
        · exact h2 y hy
      · refine .inr ⟨x :: pre, y, post, by rw [h1]; rfl, ?_, h3, fun z hz => ?_⟩
        · rw [h2, List.length_cons]
          congr 1
          omega
        · rcases List.mem_cons.1 hz with rfl | hz
          · exact c
          · exact h4 z hz
theorem set_midS (pre post : List ByteArray) (x y : ByteArray) : (pre ++ x :: post).set pre.length y = pre ++ y :: post := by simp
/-- A name is put in another's place: one occurs twice then, or doesn't. -/
theorem tw_set {c : List ByteArray} (hc : tw c = false) (old name : ByteArray) (h : 0 ≤ ixS old 0 c) : tw (c.set (ixS old 0 c).toNat name) = decide (ixS name 0 c ≥ 0 ∧ ¬ ixS name 0 c = ixS old 0 c) := by
  rcases ixS_cases old c 0 with ⟨h1, _⟩ | ⟨pre, x, post, rfl, h2, _, _⟩
  · omega
  · rw [h2, Nat.zero_add, Int.toNat_natCast, set_midS]
    have hn := (nd_app pre (x :: post)).1 (nd_of hc)
    have hpre : tw pre = false := (tw_preR hc).1
    by_cases c1 : ∀ y ∈ pre, ¬ name.toList = y.toList
    · have hix : ixS name 0 (pre ++ x :: post) = ixS name pre.length (x :: post) := by
        have : ∀ (pre : List ByteArray) (n : Nat), (∀ y ∈ pre, ¬ name.toList = y.toList) → ixS name n (pre ++ x :: post) = ixS name (n + pre.length) (x :: post) := by
          intro pre
          induction pre with
          | nil => intro n _; rfl
          | cons y pre ih =>
            intro n hy
            show (if name.toList = y.toList then (n : Int) else ixS name (n + 1) (pre ++ x :: post)) = _
            rw [if_neg (hy y (by simp)), ih (n + 1) (fun z hz => hy z (by simp [hz])), List.length_cons, show n + 1 + pre.length = n + (pre.length + 1) by omega]
        rw [this pre 0 c1, Nat.zero_add]
      by_cases c2 : ∀ y ∈ post, ¬ name.toList = y.toList
      · have ht : tw (pre ++ name :: post) = false := by
          refine tw_nd (name :: post) pre hpre (fun z hz y hy e => ?_) ⟨c2, hn.2.1.2⟩
          rcases List.mem_cons.1 hz with rfl | hz
          · exact c1 y hy e
          · exact hn.2.2 y hy z (by simp [hz]) e.symm
        rw [ht]
        refine (decide_eq_false (fun h9 => ?_)).symm
        rw [hix] at h9
        by_cases c3 : name.toList = x.toList
        · exact h9.2 (if_pos c3)
        · have e1 : ixS name pre.length (x :: post) = ixS name (pre.length + 1) post := if_neg c3
          rcases ixS_cases name post (pre.length + 1) with ⟨e2, _⟩ | ⟨p1, z, p2, e3, _, e4, _⟩
          · rw [e1, e2] at h9
            omega
          · exact c2 z (by rw [e3]; simp) e4
      · obtain ⟨y, hy, e⟩ : ∃ y ∈ post, name.toList = y.toList := by
          apply Classical.byContradiction
          intro h9
          exact c2 (fun y hy e => h9 ⟨y, hy, e⟩)
        have ht : tw (pre ++ name :: post) = true := by
          apply Classical.byContradiction
          intro h9
          have h8 := (nd_app pre (name :: post)).1 (nd_of (by simpa using h9))
          exact h8.2.1.1 y hy e
        rw [ht]
        refine (decide_eq_true ?_).symm
        have c3 : ¬ name.toList = x.toList := fun e3 => hn.2.1.1 y hy (e3.symm.trans e)
        have e1 : ixS name pre.length (x :: post) = ixS name (pre.length + 1) post := if_neg c3
        rw [hix, e1]
        rcases ixS_cases name post (pre.length + 1) with ⟨e2, e3⟩ | ⟨p1, z, p2, e3, e4, _, _⟩
        · exact absurd e (e3 y hy)
        · rw [e4]
          omega
    · obtain ⟨y, hy, e⟩ : ∃ y ∈ pre, name.toList = y.toList := by
        apply Classical.byContradiction
        intro h9
        exact c1 (fun y hy e => h9 ⟨y, hy, e⟩)
      have ht : tw (pre ++ name :: post) = true := by
        apply Classical.byContradiction
        intro h9
        exact tw_notR (by simpa using h9) y hy e
      rw [ht]
      refine (decide_eq_true ?_).symm
      rcases ixS_cases name (pre ++ x :: post) 0 with ⟨e2, e3⟩ | ⟨p1, z, p2, e3, e4, e5, e6⟩
      · exact absurd e (e3 y (by simp [hy]))
      · rw [e4]
        refine ⟨by omega, fun e7 => ?_⟩
        have hl : p1.length = pre.length := by omega
        have e8 := List.append_inj e3 hl.symm
        rw [← e8.1] at e6
        exact e6 y hy e
def renV (c : List ByteArray) (r : List S48) (old name : ByteArray) : List ByteArray × List S48 × Int :=
  if chkV c r = 0 then (if ixS old 0 c < 0 then ([], [], 8) else if nmOk name = true then (if ixS name 0 c ≥ 0 ∧ ¬ ixS name 0 c = ixS old 0 c then ([], [], 9) else (c.set (ixS old 0 c).toNat name, r, 0)) else ([], [], 4)) else ([], [], chkV c r)
theorem dup0 {l : List ByteArray} (h : nmsV l = 0) : dupS [] l = false := by
  have hl := nmsV_0 h
  unfold nmsV at h
  rw [if_neg (by omega), if_neg (by omega)] at h
  by_cases c : nmA l = true
  · rw [if_pos c] at h
    by_cases c1 : dupS [] l = true
    · rw [if_pos c1] at h
      omega
    · simpa using c1
  · rw [if_neg c] at h
    omega
theorem twD : ∀ (post pre : List ByteArray), tw pre = false → dupS pre post = false → tw (pre ++ post) = false
  | [], pre, h, _ => by rw [List.append_nil]; exact h
  | x :: post, pre, h, h1 => by
    unfold dupS at h1
    by_cases c : ixS x 0 pre ≥ 0
    · rw [if_pos c] at h1
      cases h1
    · rw [if_neg c] at h1
      rw [mid_snoc]
      exact twD post (pre ++ [x]) (by rw [tw_snoc h]; exact decide_eq_false c) h1
theorem clone_runR {l : List S48} (h : l.length ≤ 8796093022207) : slices_Clone_Run.f l = some l := by
  unfold slices_Clone_Run.f
  rw [if_pos (by omega)]
theorem Rename_ev {c : List ByteArray} {r : List S48} {old name : ByteArray} (hs : StrsOk c) (hn : name.size ≤ 140737488351232) (hc : c.length ≤ 100000) (hr : r.length ≤ 100000) : Ev (fun k => remap_Rename.f k c r old name) (renV c r old name) := by
  unfold renV
  refine Ev.bind (Check_ev hs (by omega) (by omega)) ?_
  by_cases c0 : chkV c r = 0
  · rw [if_pos c0]
    refine Ev.congr (fun k => if_pos c0) (Ev.bind (Index_ev c old (by omega)) ?_)
    by_cases c1 : ixS old 0 c < 0
    · rw [if_pos c1]
      exact Ev.congr (fun k => if_pos c1) (Ev.now _)
    · rw [if_neg c1]
      refine Ev.congr (fun k => if_neg c1) (Ev.bind (lex_Name_ev name hn) ?_)
      by_cases c2 : nmOk name = true
      · refine Ev.congr (fun k => if_pos c2) ?_
        rw [if_pos c2]
        rw [clone_str (by omega)]
        have htw : tw c = false := twD c [] rfl (dup0 (chk_0 c0).2.1)
        have hset : StrsOk (c.set (ixS old 0 c).toNat name) := by
          intro s h
          rcases List.mem_or_eq_of_mem_set h with h | h
          · exact hs s h
          · rw [h]
            exact hn
        have ht := twice_eq hset (by rw [List.length_set]; omega)
        rw [tw_set htw old name (by omega)] at ht
        have hlt : ixS old 0 c < (c.length : Int) := by
          have := ixS_ge old c 0
          omega
        refine Ev.congr (f := fun k => (remap_twice.f (c.set (ixS old 0 c).toNat name)).bind fun t544 => (if t544 = true then (some (([] : List ByteArray), ([] : List S48), (9 : Int))) else ((slices_Clone_Run.f r).bind fun t545 => (some (c.set (ixS old 0 c).toNat name, t545, 0))))) (fun k => (Option.bind_some _ _).trans ((if_pos (by omega)).trans ((if_pos hlt).trans (Option.bind_some _ _)))) ?_
        rw [ht]
        refine Ev.congr (fun k => Option.bind_some _ _) ?_
        by_cases c3 : ixS name 0 c ≥ 0 ∧ ¬ ixS name 0 c = ixS old 0 c
        · rw [if_pos c3]
          exact Ev.congr (fun k => if_pos (decide_eq_true c3)) (Ev.now _)
        · rw [if_neg c3]
          refine Ev.congr (fun k => (if_neg (by rw [decide_eq_false c3]; decide)).trans ?_) (Ev.now _)
          rw [clone_runR (by omega)]
          rfl
      · refine Ev.congr (fun k => if_neg c2) ?_
        rw [if_neg c2]
        exact Ev.now _
  · rw [if_neg c0]
    exact Ev.congr (fun k => if_neg c0) (Ev.now _)
theorem chk_one (name : ByteArray) : (chkV [name] ([] : List S48) == 0) = nmOk name := by
  have hd : dupS [] [name] = false := rfl
  have h1 : nmA [name] = nmOk name := by
    show (if nmOk name = true then true else false) = _
    cases nmOk name <;> rfl
  have h2 : nmsV [name] = if nmOk name = true then 0 else 4 := by
    unfold nmsV
    rw [if_neg (by simp), if_neg (by simp), h1, hd]
    rfl
  have h3 : rOk (mk [name]) 1099511627776 ([] : List S48) = true := rfl
  unfold chkV
  rw [if_neg (by simp), h2, h3]
  cases nmOk name <;> rfl
theorem refRename_ev {c : List ByteArray} {r : List S48} {old name : ByteArray} (hs : StrsOk c) (hn : name.size ≤ 140737488351232) (hc : c.length ≤ 100000) (hr : r.length ≤ 100000) : Ev (fun k => signalbenchref12_Rename.f k c r old name) (renV c r old name) := by
  unfold renV
  refine Ev.bind (refCheck_ev hs (by omega) (by omega)) ?_
  by_cases c0 : chkV c r = 0
  · rw [if_pos c0]
    refine Ev.congr (fun k => if_pos c0) (Ev.bind (place12_ev c old (by omega)) ?_)
    by_cases c1 : ixS old 0 c < 0
    · rw [if_pos c1]
      exact Ev.congr (fun k => if_pos c1) (Ev.now _)
    · rw [if_neg c1]
      have hG := refGood_ev (l := [name]) (r := ([] : List S48)) (fun s h => by rw [List.mem_singleton] at h; rw [h]; exact hn) (by simp) (by simp)
      rw [chk_one] at hG
      refine Ev.congr (fun k => if_neg c1) (Ev.bind hG ?_)
      by_cases c2 : nmOk name = true
      · refine Ev.congr (fun k => if_pos c2) (Ev.bind (place12_ev c name (by omega)) ?_)
        rw [if_pos c2]
        have hlt : ixS old 0 c < (c.length : Int) := by
          have := ixS_ge old c 0
          omega
        have hl8 : ([] : List ByteArray).length + c.length < 8796093022208 := by simp only [List.length_nil]; omega
        have hr8 : ([] : List S48).length + r.length < 8796093022208 := by simp only [List.length_nil]; omega
        have hset : ((some (([] : List ByteArray) : List ByteArray)).bind fun y557 => (if y557.length + c.length < 8796093022208 then ((some (y557 ++ c : List ByteArray)).bind fun y560 => ((some (([] : List S48) : List S48)).bind fun y563 => (if y563.length + r.length < 8796093022208 then (if 0 ≤ ixS old 0 c then (if ixS old 0 c < (y560.length : Int) then (some ((y560.set (ixS old 0 c : Int).toNat name), (y563 ++ r), (0 : Int))) else (none)) else (none)) else (none)))) else (none))) = some (c.set (ixS old 0 c).toNat name, r, 0) := by
          rw [Option.bind_some, if_pos hl8, Option.bind_some, Option.bind_some, if_pos hr8, if_pos (by omega), List.nil_append, if_pos hlt, List.nil_append]
        by_cases c3 : ixS name 0 c ≥ 0
        · refine Ev.congr (fun k => if_pos c3) ?_
          by_cases c4 : ixS name 0 c = ixS old 0 c
          · refine Ev.congr (fun k => (if_pos c4).trans hset) ?_
            rw [if_neg (fun h => h.2 c4)]
            exact Ev.now _
          · refine Ev.congr (fun k => if_neg c4) ?_
            rw [if_pos ⟨c3, c4⟩]
            exact Ev.now _
        · refine Ev.congr (fun k => (if_neg c3).trans hset) ?_
          rw [if_neg (fun h => c3 h.1)]
          exact Ev.now _
      · refine Ev.congr (fun k => if_neg c2) ?_
        rw [if_neg c2]
        exact Ev.now _
  · rw [if_neg c0]
    exact Ev.congr (fun k => if_neg c0) (Ev.now _)
theorem renV_len (c : List ByteArray) (r : List S48) (old name : ByteArray) : (renV c r old name).1.length ≤ c.length ∧ (renV c r old name).2.1.length ≤ r.length := by
  unfold renV
  split
  · split
    · exact ⟨Nat.zero_le _, Nat.zero_le _⟩
    · split
      · split
        · exact ⟨Nat.zero_le _, Nat.zero_le _⟩
        · exact ⟨by rw [List.length_set]; exact Nat.le_refl _, Nat.le_refl _⟩
      · exact ⟨Nat.zero_le _, Nat.zero_le _⟩
  · exact ⟨Nat.zero_le _, Nat.zero_le _⟩
theorem RemapRenames_pure {c : List ByteArray} {r : List S48} {old name : ByteArray} (hs : StrsOk c) (hn : name.size ≤ 140737488351232) : ∃ k, signalbenchlaw12_RemapRenames.f k c r old name = some true := by
  refine Ev.rounds (Ev.bind lives12_ev (Ev.congr (fun k => if_pos rfl) ?_))
  rw [few12_eq]
  refine Ev.congr (fun k => Option.bind_some _ _) ?_
  by_cases c0 : fewV12 c r = true
  · have hf : c.length ≤ 60 ∧ r.length ≤ 500 := of_decide_eq_true c0
    have hl := renV_len c r old name
    exact Ev.congr (fun k => if_pos c0) (Ev.bind (Rename_ev hs hn (by omega) (by omega)) (Ev.bind (refRename_ev hs hn (by omega) (by omega)) (Ev.congr (fun k => if_pos rfl) (Ev.bind (equal12_ev _ _ (by omega) (by omega)) (Ev.now _)))))
  · exact Ev.congr (fun k => if_neg c0) (Ev.now _)
end Go.Proofs.Ytllpgidmdomfcaa
