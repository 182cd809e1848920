/- The law RemapSelects as a plain statement on numbers and lists: with enough rounds it answers true; conditions: each number is one of its kind, no list or string is longer than its memory allows. -/
import Derived.Laws.BitsAllLaws
import Derived.WalkKit
import Derived.Test.YtllpgidmdomfcaaWMore
import Derived.Laws.Strings
import Derived.Test.YtllpgidmdomfcaaQx0
import Derived.Test.YtllpgidmdomfcaaQx2
import Derived.Test.YtllpgidmdomfcaaQx3
import Derived.Test.YtllpgidmdomfcaaQx4
import Derived.Test.YtllpgidmdomfcaaQx5
import Derived.Test.YtllpgidmdomfcaaQx6
import Derived.Test.YtllpgidmdomfcaaQx7
import Derived.Test.YtllpgidmdomfcaaQx10
import Derived.Test.YtllpgidmdomfcaaQx14
import Derived.Test.YtllpgidmdomfcaaQx15
import Derived.Test.YtllpgidmdomfcaaQx16
import Derived.Test.YtllpgidmdomfcaaQx17
import Derived.Test.YtllpgidmdomfcaaQx22
import Derived.Test.YtllpgidmdomfcaaQx23
import Derived.Test.YtllpgidmdomfcaaQx24
import Derived.Test.YtllpgidmdomfcaaQx25
import Derived.Test.YtllpgidmdomfcaaQx26
import Derived.Test.YtllpgidmdomfcaaQx27
import Derived.Test.YtllpgidmdomfcaaQx28
import Derived.Test.YtllpgidmdomfcaaQx30
import Derived.Test.YtllpgidmdomfcaaQx33
import Derived.Test.YtllpgidmdomfcaaQx34
namespace Go.Proofs.Ytllpgidmdomfcaa
open Go Go.RowKit Go.Proofs.YtllpgidmdomfcaaW.PrintWords Go.Proofs.YtllpgidmdomfcaaW.PrintLast Go.Proofs.Ytllpgidmdomfcaa.Q
set_option linter.unusedVariables false
theorem w64 {x : Int} (h0 : -9223372036854775808 ≤ x) (h1 : x ≤ 9223372036854775807) : wrap64 x = x := by
  unfold wrap64
  omega
theorem succ_mid {α : Type} (pre : List α) (x : α) (h : pre.length ≤ 9223372036854775806) : wrap64 ((pre.length : Int) + 1) = ((pre ++ [x]).length : Int) := by
  rw [w64 (by omega) (by omega)]
  simp
theorem mid_snoc {α : Type} (pre post : List α) (x : α) : pre ++ x :: post = (pre ++ [x]) ++ post := by simp
def sm : List S48 → Int
  | [] => 0
  | x :: l => x.f1 + sm l
def RunsOk (l : List S48) : Prop := ∀ x ∈ l, (x.f0 = 0 ∨ x.f0 = 1) ∧ 1 ≤ x.f1
theorem rd_mid (pre post : List S48) (x : S48) : rd_T48 (pre ++ x :: post) (pre.length : Int) = x := by simp [rd_T48, List.getD]
theorem mid_lt (pre post : List S48) (x : S48) : (pre.length : Int) < ((pre ++ x :: post).length : Int) := by
  simp only [List.length_append, List.length_cons]
  omega
theorem sm_append : ∀ (a b : List S48), sm (a ++ b) = sm a + sm b
  | [], b => by simp [sm]
  | x :: a, b => by
    have := sm_append a b
    simp only [List.cons_append, sm]
    omega
theorem RunsOk.cons {x : S48} {l : List S48} (h : RunsOk (x :: l)) : ((x.f0 = 0 ∨ x.f0 = 1) ∧ 1 ≤ x.f1) ∧ RunsOk l := ⟨h x (by simp), fun y hy => h y (by simp [hy])⟩
theorem RunsOk.left {a b : List S48} (h : RunsOk (a ++ b)) : RunsOk a := fun x hx => h x (List.mem_append_left _ hx)
theorem last_at (o : List S48) (x : S48) (h : o.length ≤ 9223372036854775806) : wrap64 (((o ++ [x]).length : Int) - 1) = (o.length : Int) := by
  rw [w64 (by simp only [List.length_append, List.length_cons, List.length_nil]; omega) (by simp only [List.length_append, List.length_cons, List.length_nil]; omega)]
  simp
theorem rd_last (o : List S48) (x : S48) : rd_T48 (o ++ [x]) (o.length : Int) = x := rd_mid o [] x
theorem set_last (o : List S48) (x y : S48) : (o ++ [x]).set ((o.length : Int)).toNat y = o ++ [y] := by
  rw [Int.toNat_natCast, List.set_append_right _ _ (Nat.le_refl _), Nat.sub_self]
  rfl
def wd (c : Int) : Bool := if 97 ≤ c ∧ c ≤ 122 then true else if 48 ≤ c ∧ c ≤ 57 then true else if c = 95 then true else false
def wAll (s : ByteArray) : Nat → Nat → Bool
  | 0, _ => true
  | m + 1, i => if wd (bt s (i : Int)) = true then wAll s m (i + 1) else false
def nmOk (s : ByteArray) : Bool := if s.size = 0 then false else if 16 < s.size then false else if 97 ≤ bt s 0 ∧ bt s 0 ≤ 122 then wAll s s.size 0 else false
theorem w32 {x : Int} (h0 : 0 ≤ x) (h1 : x ≤ 255) : wrap32 x = x := by
  unfold wrap32
  omega
theorem nil_iff (s : ByteArray) : s.toList = ([] : List UInt8) ↔ s.size = 0 := by
  rw [ByteArray.toList_eq, ← List.length_eq_zero_iff, data_length]
theorem wd_1 {c : Int} (h : 97 ≤ c ∧ c ≤ 122) : wd c = true := by
  unfold wd
  rw [if_pos h]
theorem wd_2 {c : Int} (h : 48 ≤ c ∧ c ≤ 57) : wd c = true := by
  unfold wd
  rw [if_neg (by omega), if_pos h]
theorem wd_3 {c : Int} (h : c = 95) : wd c = true := by
  unfold wd
  rw [if_neg (by omega), if_neg (by omega), if_pos h]
theorem wd_0 {c : Int} (h : ¬ (97 ≤ c ∧ c ≤ 122)) (h1 : ¬ (48 ≤ c ∧ c ≤ 57)) (h2 : ¬ c = 95) : wd c = false := by
  unfold wd
  rw [if_neg h, if_neg h1, if_neg h2]
theorem lex_letter_eq (c : Int) : lex_letter.f c = some (decide (97 ≤ c ∧ c ≤ 122)) := by
  unfold lex_letter.f
  by_cases h : 97 ≤ c <;> simp [h]
theorem lex_word_eq (c : Int) : lex_word.f c = some (wd c) := by
  unfold lex_word.f lex_digit.f wd
  rw [lex_letter_eq]
  by_cases h : 97 ≤ c ∧ c ≤ 122
  · simp [h]
  · by_cases h1 : 48 ≤ c
    · by_cases h2 : c ≤ 57
      · simp [h, h1, h2]
      · by_cases h3 : c = 95 <;> simp [h, h1, h2, h3]
    · by_cases h3 : c = 95 <;> simp [h, h1, h3]
theorem lex_Name_l0 (s : ByteArray) (hs : s.size ≤ 140737488351232) : ∀ (m i : Nat), i + m = s.size → Ev (fun k => lex_Name.l0 k s (s.size : Int) (i : Int)) (wAll s m i)
  | 0, i, h => by
    refine Ev.step (f := fun _ => some true) (fun k => ?_) (Ev.now _)
    simp only [lex_Name.l0]
    rw [if_neg (by omega)]
  | m + 1, i, h => by
    have hb := bt_range s (i : Int)
    have hst : ∀ k, lex_Name.l0 (k + 1) s (s.size : Int) (i : Int) = if wd (bt s (i : Int)) = true then lex_Name.l0 k s (s.size : Int) ((i + 1 : Nat) : Int) else some false := by
      intro k
      simp only [lex_Name.l0]
      rw [if_pos (by omega), if_pos (by omega), if_pos (by omega), lex_word_eq, w32 hb.1 hb.2, Option.bind_some, w64 (by omega) (by omega)]
      rfl
    unfold wAll
    by_cases c : wd (bt s (i : Int)) = true
    · rw [if_pos c]
      exact Ev.step (fun k => (hst k).trans (if_pos c)) (lex_Name_l0 s hs m (i + 1) (by omega))
    · rw [if_neg c]
      exact Ev.step (fun k => (hst k).trans (if_neg c)) (Ev.now _)
theorem lex_Name_ev (s : ByteArray) (hs : s.size ≤ 140737488351232) : Ev (fun k => lex_Name.f k s) (nmOk s) := by
  have hb := bt_range s 0
  have hj : Ev (fun k => lex_Name.j0 k s true) false := Ev.step (f := fun _ => some false) (fun k => by simp only [lex_Name.j0]; rfl) (Ev.now _)
  unfold nmOk
  by_cases h0 : s.size = 0
  · rw [if_pos h0]
    refine Ev.congr (fun k => ?_) hj
    unfold lex_Name.f
    rw [if_pos ((nil_iff s).2 h0)]
  · rw [if_neg h0]
    have hn : ¬ s.toList = [] := fun h => h0 ((nil_iff s).1 h)
    by_cases h1 : 16 < s.size
    · rw [if_pos h1]
      refine Ev.congr (fun k => ?_) hj
      unfold lex_Name.f
      rw [if_neg hn, if_pos (by omega)]
    · rw [if_neg h1]
      have e : ∀ k, lex_Name.f k s = lex_Name.j0 k s (!(decide (97 ≤ bt s 0 ∧ bt s 0 ≤ 122))) := by
        intro k
        unfold lex_Name.f
        rw [if_neg hn, if_neg (by omega), if_pos (by omega), lex_letter_eq, w32 hb.1 hb.2]
        rfl
      refine Ev.congr e ?_
      by_cases h2 : 97 ≤ bt s 0 ∧ bt s 0 ≤ 122
      · rw [if_pos h2, decide_eq_true h2]
        refine Ev.step (fun k => ?_) (lex_Name_l0 s hs s.size 0 (by omega))
        simp only [lex_Name.j0]
        rw [if_neg (by decide)]
        rfl
      · rw [if_neg h2, decide_eq_false h2]
        exact hj
theorem ref_name_step (s : ByteArray) (hs : s.size ≤ 140737488351232) (i : Nat) (h : i < s.size) (k : Nat) :
    signalbenchref09_name.l0 (k + 1) s (i : Int) = if wd (bt s (i : Int)) = true then signalbenchref09_name.l0 k s ((i + 1 : Nat) : Int) else some false := by
  have e : wrap64 ((i : Int) + 1) = ((i + 1 : Nat) : Int) := by
    rw [w64 (by omega) (by omega)]
    rfl
  simp only [signalbenchref09_name.l0]
  rw [if_pos (by omega), if_pos (by omega), e]
  generalize bt s (i : Int) = c
  by_cases h1 : c ≥ 97
  · by_cases h2 : c ≤ 122
    · rw [if_pos h1, if_pos (by omega), if_pos h2, wd_1 ⟨h1, h2⟩, if_pos rfl]
    · rw [if_pos h1, if_pos (by omega), if_neg h2, if_neg (by omega), if_neg (by omega), wd_0 (by omega) (by omega) (by omega), if_neg (by decide)]
  · rw [if_neg h1]
    by_cases h3 : c ≥ 48
    · rw [if_pos h3]
      by_cases h4 : c ≤ 57
      · rw [if_pos h4, wd_2 ⟨h3, h4⟩, if_pos rfl]
      · rw [if_neg h4]
        by_cases h5 : c = 95
        · rw [if_pos h5, wd_3 h5, if_pos rfl]
        · rw [if_neg h5, wd_0 (by omega) (by omega) h5, if_neg (by decide)]
    · rw [if_neg h3]
      by_cases h5 : c = 95
      · rw [if_pos h5, wd_3 h5, if_pos rfl]
      · rw [if_neg h5, wd_0 (by omega) (by omega) h5, if_neg (by decide)]
theorem ref_name_l0 (s : ByteArray) (hs : s.size ≤ 140737488351232) : ∀ (m i : Nat), i + m = s.size → Ev (fun k => signalbenchref09_name.l0 k s (i : Int)) (wAll s m i)
  | 0, i, h => by
    refine Ev.step (f := fun _ => some true) (fun k => ?_) (Ev.now _)
    simp only [signalbenchref09_name.l0]
    rw [if_neg (by omega)]
  | m + 1, i, h => by
    have hst := ref_name_step s hs i (by omega)
    unfold wAll
    by_cases c : wd (bt s (i : Int)) = true
    · rw [if_pos c]
      exact Ev.step (fun k => (hst k).trans (if_pos c)) (ref_name_l0 s hs m (i + 1) (by omega))
    · rw [if_neg c]
      exact Ev.step (fun k => (hst k).trans (if_neg c)) (Ev.now _)
theorem ref_name_ev (s : ByteArray) (hs : s.size ≤ 140737488351232) : Ev (fun k => signalbenchref09_name.f k s) (nmOk s) := by
  have hj : Ev (fun k => signalbenchref09_name.j0 k s true) false := Ev.step (f := fun _ => some false) (fun k => by simp only [signalbenchref09_name.j0]; rfl) (Ev.now _)
  unfold nmOk
  by_cases h0 : s.size = 0
  · rw [if_pos h0]
    refine Ev.congr (fun k => ?_) hj
    unfold signalbenchref09_name.f
    rw [if_pos ((nil_iff s).2 h0)]
  · rw [if_neg h0]
    have hn : ¬ s.toList = [] := fun h => h0 ((nil_iff s).1 h)
    by_cases h1 : 16 < s.size
    · rw [if_pos h1]
      refine Ev.congr (fun k => ?_) hj
      unfold signalbenchref09_name.f
      rw [if_neg hn, if_pos (by omega)]
    · rw [if_neg h1]
      by_cases h3 : bt s 0 < 97
      · rw [if_neg (by omega)]
        refine Ev.congr (fun k => ?_) hj
        unfold signalbenchref09_name.f
        rw [if_neg hn, if_neg (by omega), if_pos (by omega), if_pos h3]
      · have e : ∀ k, signalbenchref09_name.f k s = signalbenchref09_name.j0 k s (decide (bt s 0 > 122)) := by
          intro k
          unfold signalbenchref09_name.f
          rw [if_neg hn, if_neg (by omega), if_pos (by omega), if_neg h3]
        refine Ev.congr e ?_
        by_cases h2 : bt s 0 > 122
        · rw [if_neg (by omega), decide_eq_true h2]
          exact hj
        · rw [if_pos (by omega), decide_eq_false h2]
          refine Ev.step (fun k => ?_) (ref_name_l0 s hs s.size 0 (by omega))
          simp only [signalbenchref09_name.j0]
          rw [if_neg (by decide)]
          rfl
def StrsOk (l : List ByteArray) : Prop := ∀ s ∈ l, s.size ≤ 140737488351232
def nmA : List ByteArray → Bool
  | [] => true
  | s :: l => if nmOk s = true then nmA l else false
theorem rds_mid (pre post : List ByteArray) (x : ByteArray) : rdOf ByteArray.empty (pre ++ x :: post) (pre.length : Int) = x := by simp [rdOf, List.getD]
theorem mids_lt (pre post : List ByteArray) (x : ByteArray) : (pre.length : Int) < ((pre ++ x :: post).length : Int) := by
  simp only [List.length_append, List.length_cons]
  omega
/-- The first place of a name, or -1. -/
def ixS (s : ByteArray) : Nat → List ByteArray → Int
  | _, [] => -1
  | n, t :: l => if s.toList = t.toList then (n : Int) else ixS s (n + 1) l
theorem Index_l0 (s : ByteArray) : ∀ (post pre : List ByteArray), (pre ++ post).length ≤ 140737488351232 →
    Ev (fun k => slices_Index_string.l0 k (pre ++ post) s ((pre ++ post).length : Int) (pre.length : Int)) (ixS s pre.length post)
  | [], pre, hl => by
    refine Ev.step (f := fun _ => some (-1)) (fun k => ?_) (Ev.now _)
    simp only [slices_Index_string.l0]
    rw [if_neg (by simp)]
  | x :: post, pre, hl => by
    have hlt := mids_lt pre post x
    have hn : pre.length ≤ 9223372036854775806 := by
      simp only [List.length_append, List.length_cons] at hl
      omega
    have hst : ∀ k, slices_Index_string.l0 (k + 1) (pre ++ x :: post) s ((pre ++ x :: post).length : Int) (pre.length : Int) = if s.toList = x.toList then some (pre.length : Int) else slices_Index_string.l0 k (pre ++ x :: post) s ((pre ++ x :: post).length : Int) ((pre ++ [x]).length : Int) := by
      intro k
      simp only [slices_Index_string.l0]
      rw [rds_mid, if_pos hlt, if_pos (by omega), if_pos hlt, succ_mid _ _ hn]
    unfold ixS
    by_cases c : s.toList = x.toList
    · rw [if_pos c]
      exact Ev.step (fun k => (hst k).trans (if_pos c)) (Ev.now _)
    · rw [if_neg c]
      have ih := Index_l0 s post (pre ++ [x]) (by simpa using hl)
      rw [← mid_snoc] at ih
      have e : (pre ++ [x]).length = pre.length + 1 := by simp
      rw [e] at ih
      refine Ev.step (fun k => (hst k).trans (if_neg c)) ?_
      rw [e]
      exact ih
theorem Index_ev (l : List ByteArray) (s : ByteArray) (hl : l.length ≤ 140737488351232) : Ev (fun k => slices_Index_string.f k l s) (ixS s 0 l) := Ev.congr (fun k => rfl) (Index_l0 s l [] (by simpa using hl))
theorem Contains_ev (l : List ByteArray) (s : ByteArray) (hl : l.length ≤ 140737488351232) : Ev (fun k => slices_Contains_string.f k l s) (decide (ixS s 0 l ≥ 0)) := Ev.bind (Index_ev l s hl) (Ev.now _)
def dupS : List ByteArray → List ByteArray → Bool
  | _, [] => false
  | pre, x :: post => if ixS x 0 pre ≥ 0 then true else dupS (pre ++ [x]) post
def nmsV (l : List ByteArray) : Int := if 16 < l.length then 6 else if l.length = 0 then 1 else if nmA l = true then (if dupS [] l = true then 9 else 0) else 4
theorem checkNames_l1 : ∀ (post pre : List ByteArray), (pre ++ post).length ≤ 140737488351232 →
    Ev (fun k => capture_checkNames.l1 k (pre ++ post) (pre ++ post) ((pre ++ post).length : Int) (pre.length : Int)) (if dupS pre post = true then 9 else 0)
  | [], pre, hl => by
    refine Ev.step (f := fun _ => some 0) (fun k => ?_) ?_
    · simp only [capture_checkNames.l1]
      rw [if_neg (by simp)]
    · rw [show (if dupS pre [] = true then (9 : Int) else 0) = 0 from rfl]
      exact Ev.now _
  | x :: post, pre, hl => by
    have hlt := mids_lt pre post x
    have hn : pre.length ≤ 9223372036854775806 := by
      simp only [List.length_append, List.length_cons] at hl
      omega
    have hp : pre.length ≤ 140737488351232 := by
      simp only [List.length_append, List.length_cons] at hl
      omega
    have hst : ∀ k, capture_checkNames.l1 (k + 1) (pre ++ x :: post) (pre ++ x :: post) ((pre ++ x :: post).length : Int) (pre.length : Int) = (slices_Contains_string.f k pre x).bind fun t111 => (if t111 = true then (some 9) else (capture_checkNames.l1 k (pre ++ x :: post) (pre ++ x :: post) ((pre ++ x :: post).length : Int) ((pre ++ [x]).length : Int))) := by
      intro k
      simp only [capture_checkNames.l1]
      rw [rds_mid, if_pos hlt, if_pos (by omega), if_pos hlt, if_pos (by omega), succ_mid _ _ hn, Int.toNat_natCast, List.take_left' rfl]
    refine Ev.step hst (Ev.bind (Contains_ev pre x hp) ?_)
    unfold dupS
    by_cases c : ixS x 0 pre ≥ 0
    · rw [if_pos c, decide_eq_true c]
      exact Ev.congr (fun k => if_pos rfl) (Ev.now _)
    · rw [if_neg c, decide_eq_false c]
      have ih := checkNames_l1 post (pre ++ [x]) (by simpa using hl)
      rw [← mid_snoc] at ih
      exact Ev.congr (fun k => if_neg (by decide)) ih
theorem checkNames_l0 : ∀ (post pre : List ByteArray) (R : Int), StrsOk post → (pre ++ post).length ≤ 140737488351232 → Ev (fun k => capture_checkNames.l1 k (pre ++ post) (pre ++ post) ((pre ++ post).length : Int) 0) R →
    Ev (fun k => capture_checkNames.l0 k (pre ++ post) (pre ++ post) ((pre ++ post).length : Int) (pre.length : Int)) (if nmA post = true then R else 4)
  | [], pre, R, hs, hl, hR => by
    refine Ev.step (fun k => ?_) (Ev.congr (fun k => rfl) hR)
    simp only [capture_checkNames.l0]
    rw [if_neg (by simp)]
  | x :: post, pre, R, hs, hl, hR => by
    have hlt := mids_lt pre post x
    have hn : pre.length ≤ 9223372036854775806 := by
      simp only [List.length_append, List.length_cons] at hl
      omega
    have hst : ∀ k, capture_checkNames.l0 (k + 1) (pre ++ x :: post) (pre ++ x :: post) ((pre ++ x :: post).length : Int) (pre.length : Int) = (lex_Name.f k x).bind fun t108 => (if t108 = true then (capture_checkNames.l0 k (pre ++ x :: post) (pre ++ x :: post) ((pre ++ x :: post).length : Int) ((pre ++ [x]).length : Int)) else (some 4)) := by
      intro k
      simp only [capture_checkNames.l0]
      rw [rds_mid, if_pos hlt, if_pos (by omega), if_pos hlt, succ_mid _ _ hn]
    refine Ev.step hst (Ev.bind (lex_Name_ev x (hs x (by simp))) ?_)
    unfold nmA
    by_cases c : nmOk x = true
    · rw [if_pos c, c]
      have ih := checkNames_l0 post (pre ++ [x]) R (fun y hy => hs y (by simp [hy])) (by simpa using hl) (by rw [← mid_snoc]; exact hR)
      rw [← mid_snoc] at ih
      exact Ev.congr (fun k => if_pos rfl) ih
    · rw [if_neg c, Bool.eq_false_iff.2 c]
      exact Ev.congr (fun k => if_neg (by decide)) (Ev.now _)
theorem checkNames_ev {l : List ByteArray} (hs : StrsOk l) (hl : l.length ≤ 140737488351232) (h16 : l.length ≤ 16) : Ev (fun k => capture_checkNames.f k l) (nmsV l) := by
  unfold nmsV
  rw [if_neg (by omega)]
  by_cases c : l.length = 0
  · rw [if_pos c]
    refine Ev.congr (fun k => ?_) (Ev.now _)
    unfold capture_checkNames.f
    rw [if_pos (by omega)]
  · rw [if_neg c]
    refine Ev.congr (fun k => ?_) (checkNames_l0 l [] _ hs (by simpa using hl) (checkNames_l1 l [] (by simpa using hl)))
    unfold capture_checkNames.f
    rw [if_neg (by omega)]
    rfl
theorem refnames_l2 (x : ByteArray) (post pre : List ByteArray) (R : Int) (hl : (pre ++ x :: post).length ≤ 140737488351232) (hR : Ev (fun k => signalbenchref09_names.l1 k (pre ++ x :: post) ((pre ++ [x]).length : Int)) R) :
    ∀ (p q : List ByteArray), pre = q ++ p → Ev (fun k => signalbenchref09_names.l2 k (pre ++ x :: post) (pre.length : Int) (q.length : Int)) (if ixS x q.length p ≥ 0 then 9 else R)
  | [], q, e => by
    have e1 : pre.length = q.length := by rw [e]; simp
    have hn : pre.length ≤ 9223372036854775806 := by
      simp only [List.length_append, List.length_cons] at hl
      omega
    rw [show (if ixS x q.length [] ≥ 0 then (9 : Int) else R) = R from if_neg (by show ¬ ((-1 : Int) ≥ 0); omega)]
    refine Ev.step (fun k => ?_) hR
    simp only [signalbenchref09_names.l2]
    rw [if_neg (by omega), succ_mid _ _ hn]
  | t :: p, q, e => by
    have e1 : pre.length = q.length + (p.length + 1) := by rw [e]; simp
    have hlt := mids_lt pre post x
    have e2 : rdOf ByteArray.empty (pre ++ x :: post) (q.length : Int) = t := by
      rw [e, List.append_assoc]
      exact rds_mid q (p ++ x :: post) t
    have hn : q.length ≤ 9223372036854775806 := by
      simp only [List.length_append, List.length_cons] at hl
      omega
    have hst : ∀ k, signalbenchref09_names.l2 (k + 1) (pre ++ x :: post) (pre.length : Int) (q.length : Int) = if x.toList = t.toList then some 9 else signalbenchref09_names.l2 k (pre ++ x :: post) (pre.length : Int) ((q ++ [t]).length : Int) := by
      intro k
      simp only [signalbenchref09_names.l2]
      rw [rds_mid, e2, if_pos (by omega), if_pos (by omega), if_pos hlt, if_pos (by omega), if_pos (by omega), succ_mid _ _ hn]
    unfold ixS
    by_cases c : x.toList = t.toList
    · rw [if_pos c, if_pos (by omega)]
      exact Ev.step (fun k => (hst k).trans (if_pos c)) (Ev.now _)
    · rw [if_neg c]
      have ih := refnames_l2 x post pre R hl hR p (q ++ [t]) (by rw [e, mid_snoc])
      have e3 : (q ++ [t]).length = q.length + 1 := by simp
      rw [e3] at ih
      refine Ev.step (fun k => (hst k).trans (if_neg c)) ?_
      rw [e3]
      exact ih
theorem refnames_l1 : ∀ (post pre : List ByteArray), (pre ++ post).length ≤ 140737488351232 →
    Ev (fun k => signalbenchref09_names.l1 k (pre ++ post) (pre.length : Int)) (if dupS pre post = true then 9 else 0)
  | [], pre, hl => by
    refine Ev.step (f := fun _ => some 0) (fun k => ?_) ?_
    · simp only [signalbenchref09_names.l1]
      rw [if_neg (by simp)]
    · rw [show (if dupS pre [] = true then (9 : Int) else 0) = 0 from rfl]
      exact Ev.now _
  | x :: post, pre, hl => by
    have hlt := mids_lt pre post x
    have ih := refnames_l1 post (pre ++ [x]) (by simpa using hl)
    rw [← mid_snoc] at ih
    have h2 := refnames_l2 x post pre _ hl ih pre [] rfl
    have e : (if dupS pre (x :: post) = true then (9 : Int) else 0) = if ixS x ([] : List ByteArray).length pre ≥ 0 then 9 else if dupS (pre ++ [x]) post = true then 9 else 0 := by
      show (if (if ixS x 0 pre ≥ 0 then true else dupS (pre ++ [x]) post) = true then (9 : Int) else 0) = if ixS x 0 pre ≥ 0 then 9 else _
      by_cases c : ixS x 0 pre ≥ 0
      · rw [if_pos c, if_pos c, if_pos rfl]
      · rw [if_neg c, if_neg c]
    rw [e]
    refine Ev.step (fun k => ?_) h2
    simp only [signalbenchref09_names.l1]
    rw [if_pos hlt]
    rfl
theorem refnames_l0 : ∀ (post pre : List ByteArray) (R : Int), StrsOk post → (pre ++ post).length ≤ 140737488351232 → Ev (fun k => signalbenchref09_names.l1 k (pre ++ post) 0) R →
    Ev (fun k => signalbenchref09_names.l0 k (pre ++ post) (pre.length : Int)) (if nmA post = true then R else 4)
  | [], pre, R, hs, hl, hR => by
    refine Ev.step (fun k => ?_) (Ev.congr (fun k => rfl) hR)
    simp only [signalbenchref09_names.l0]
    rw [if_neg (by simp)]
  | x :: post, pre, R, hs, hl, hR => by
    have hlt := mids_lt pre post x
    have hn : pre.length ≤ 9223372036854775806 := by
      simp only [List.length_append, List.length_cons] at hl
      omega
    have hst : ∀ k, signalbenchref09_names.l0 (k + 1) (pre ++ x :: post) (pre.length : Int) = (signalbenchref09_name.f k x).bind fun t108 => (if t108 = true then (signalbenchref09_names.l0 k (pre ++ x :: post) ((pre ++ [x]).length : Int)) else (some 4)) := by
      intro k
      simp only [signalbenchref09_names.l0]
      rw [rds_mid, if_pos hlt, if_pos (by omega), succ_mid _ _ hn]
    refine Ev.step hst (Ev.bind (ref_name_ev x (hs x (by simp))) ?_)
    unfold nmA
    by_cases c : nmOk x = true
    · rw [if_pos c, c]
      have ih := refnames_l0 post (pre ++ [x]) R (fun y hy => hs y (by simp [hy])) (by simpa using hl) (by rw [← mid_snoc]; exact hR)
      rw [← mid_snoc] at ih
      exact Ev.congr (fun k => if_pos rfl) ih
    · rw [if_neg c, Bool.eq_false_iff.2 c]
      exact Ev.congr (fun k => if_neg (by decide)) (Ev.now _)
theorem refnames_ev {l : List ByteArray} (hs : StrsOk l) (hl : l.length ≤ 140737488351232) : Ev (fun k => signalbenchref09_names.f k l) (nmsV l) := by
  unfold nmsV
  by_cases h : 16 < l.length
  · rw [if_pos h]
    refine Ev.congr (fun k => ?_) (Ev.now _)
    unfold signalbenchref09_names.f
    rw [if_pos (by omega)]
  · rw [if_neg h]
    by_cases c : l.length = 0
    · rw [if_pos c]
      refine Ev.congr (fun k => ?_) (Ev.now _)
      unfold signalbenchref09_names.f
      rw [if_neg (by omega), if_pos (by omega)]
    · rw [if_neg c]
      refine Ev.congr (fun k => ?_) (refnames_l0 l [] _ hs (by simpa using hl) (refnames_l1 l [] (by simpa using hl)))
      unfold signalbenchref09_names.f
      rw [if_neg (by omega), if_neg (by omega)]
      rfl
/-- Levels from 0 to m, and at least one tick each. -/
def RunsM (m : Int) (l : List S48) : Prop := ∀ x ∈ l, 0 ≤ x.f0 ∧ x.f0 ≤ m ∧ 1 ≤ x.f1
def rOk (m : Int) : Int → List S48 → Bool
  | left, [] => true
  | left, x :: l => if 0 ≤ x.f0 ∧ x.f0 ≤ m ∧ 1 ≤ x.f1 ∧ x.f1 ≤ left then rOk m (left - x.f1) l else false
theorem RunsM.cons {m : Int} {x : S48} {l : List S48} (h : RunsM m (x :: l)) : (0 ≤ x.f0 ∧ x.f0 ≤ m ∧ 1 ≤ x.f1) ∧ RunsM m l := ⟨h x (by simp), fun y hy => h y (by simp [hy])⟩
theorem smM_nonneg {m : Int} : ∀ {l : List S48}, RunsM m l → 0 ≤ sm l
  | [], _ => Int.le_refl _
  | x :: l, h => by
    have h1 := h.cons
    have h2 := smM_nonneg h1.2
    simp only [sm]
    omega
theorem rOk_iff {m : Int} : ∀ {l : List S48} {left : Int}, 0 ≤ left → (rOk m left l = true ↔ RunsM m l ∧ sm l ≤ left)
  | [], left, h => by simp [rOk, RunsM, sm, h]
  | x :: l, left, h => by
    unfold rOk
    by_cases c : 0 ≤ x.f0 ∧ x.f0 ≤ m ∧ 1 ≤ x.f1 ∧ x.f1 ≤ left
    · rw [if_pos c, rOk_iff (l := l) (by omega)]
      simp only [RunsM, sm, List.mem_cons, forall_eq_or_imp]
      constructor
      · rintro ⟨h1, h2⟩
        exact ⟨⟨⟨c.1, c.2.1, c.2.2.1⟩, h1⟩, by omega⟩
      · rintro ⟨⟨h1, h2⟩, h3⟩
        exact ⟨h2, by omega⟩
    · rw [if_neg c]
      simp only [Bool.false_eq_true, false_iff]
      rintro ⟨h1, h2⟩
      have h3 := h1.cons
      have h4 := smM_nonneg h3.2
      simp only [sm] at h2
      exact c ⟨h3.1.1, h3.1.2.1, h3.1.2.2, by omega⟩
def mk (l : List ByteArray) : Int := wrap64 ((shl .i64 1 (l.length : Int)) - 1)
def chkV (l : List ByteArray) (r : List S48) : Int := if 262144 < r.length then 6 else if nmsV l = 0 then (if rOk (mk l) 1099511627776 r = true then 0 else 2) else nmsV l
theorem chk_0 {l : List ByteArray} {r : List S48} (h : chkV l r = 0) : r.length ≤ 262144 ∧ nmsV l = 0 ∧ RunsM (mk l) r ∧ sm r ≤ 1099511627776 := by
  unfold chkV at h
  by_cases c : 262144 < r.length
  · rw [if_pos c] at h
    omega
  · rw [if_neg c] at h
    by_cases c1 : nmsV l = 0
    · rw [if_pos c1] at h
      by_cases c2 : rOk (mk l) 1099511627776 r = true
      · exact ⟨by omega, c1, (rOk_iff (by omega)).1 c2⟩
      · rw [if_neg c2] at h
        omega
    · rw [if_neg c1] at h
      exact absurd h c1
theorem Check_l0 (m : Int) : ∀ (post pre : List S48) (left : Int), 0 ≤ left → left ≤ 1099511627776 → (pre ++ post).length ≤ 140737488351232 →
    Ev (fun k => capture_Check.l0 k m left (pre ++ post) ((pre ++ post).length : Int) (pre.length : Int)) (if rOk m left post = true then 0 else 2)
  | [], pre, left, h0, h1, hl => by
    rw [show (if rOk m left [] = true then (0 : Int) else 2) = 0 from rfl]
    refine Ev.step (f := fun _ => some 0) (fun k => ?_) (Ev.now _)
    simp only [capture_Check.l0]
    rw [if_neg (by simp)]
  | x :: post, pre, left, h0, h1, hl => by
    have hlt := mid_lt pre post x
    have hn : pre.length ≤ 9223372036854775806 := by
      simp only [List.length_append, List.length_cons] at hl
      omega
    unfold rOk
    by_cases c : 0 ≤ x.f0 ∧ x.f0 ≤ m ∧ 1 ≤ x.f1 ∧ x.f1 ≤ left
    · have ih := Check_l0 m post (pre ++ [x]) (left - x.f1) (by omega) (by omega) (by simpa using hl)
      rw [← mid_snoc] at ih
      rw [if_pos c]
      refine Ev.step (fun k => ?_) ih
      simp only [capture_Check.l0]
      rw [rd_mid, if_pos hlt, if_pos (by omega), if_pos hlt, if_neg (by omega), if_neg (by omega), if_neg (by omega), if_neg (by omega), w64 (by omega) (by omega), succ_mid _ _ hn]
    · rw [if_neg c, show (if false = true then (0 : Int) else 2) = 2 from rfl]
      refine Ev.step (f := fun _ => some 2) (fun k => ?_) (Ev.now _)
      simp only [capture_Check.l0]
      rw [rd_mid, if_pos hlt, if_pos (by omega), if_pos hlt]
      by_cases c1 : x.f0 < 0
      · rw [if_pos c1]
      · rw [if_neg c1]
        by_cases c2 : x.f0 > m
        · rw [if_pos c2]
        · rw [if_neg c2]
          by_cases c3 : x.f1 < 1
          · rw [if_pos c3]
          · rw [if_neg c3, if_pos (by omega)]
theorem Check_ev {l : List ByteArray} {r : List S48} (hs : StrsOk l) (hl : l.length ≤ 140737488351232) (hr : r.length ≤ 140737488351232) : Ev (fun k => capture_Check.f k l r) (chkV l r) := by
  have hj : Ev (fun k => capture_Check.j0 k true l r) 6 := Ev.step (f := fun _ => some 6) (fun k => by simp only [capture_Check.j0]; rfl) (Ev.now _)
  by_cases c : 16 < l.length
  · have e : chkV l r = 6 := by
      have e1 : nmsV l = 6 := by
        unfold nmsV
        rw [if_pos c]
      unfold chkV
      rw [e1]
      by_cases c1 : 262144 < r.length
      · rw [if_pos c1]
      · rw [if_neg c1]
        rfl
    rw [e]
    refine Ev.congr (fun k => ?_) hj
    unfold capture_Check.f
    rw [if_pos (by omega)]
  · have e : ∀ k, capture_Check.f k l r = capture_Check.j0 k (decide ((r.length : Int) > 262144)) l r := by
      intro k
      unfold capture_Check.f
      rw [if_neg (by omega)]
    refine Ev.congr e ?_
    unfold chkV
    by_cases c1 : 262144 < r.length
    · rw [if_pos c1, decide_eq_true (by omega)]
      exact hj
    · rw [if_neg c1, decide_eq_false (by omega)]
      refine Ev.step (f := fun k => (capture_checkNames.f k l).bind fun t113 => (if t113 = 0 then (capture_Check.l0 k (mk l) 1099511627776 r (r.length : Int) 0) else (some t113))) (fun k => ?_) (Ev.bind (checkNames_ev hs hl (by omega)) ?_)
      · simp only [capture_Check.j0]
        rw [if_neg (by decide)]
        rfl
      · by_cases c2 : nmsV l = 0
        · rw [if_pos c2]
          exact Ev.congr (fun k => if_pos c2) (Check_l0 (mk l) r [] 1099511627776 (by omega) (by omega) (by simpa using hr))
        · rw [if_neg c2]
          exact Ev.congr (fun k => if_neg c2) (Ev.now _)
theorem refruns_l0 (m : Int) : ∀ (post pre : List S48) (left : Int), 0 ≤ left → left ≤ 1099511627776 → (pre ++ post).length ≤ 140737488351232 →
    Ev (fun k => signalbenchref09_runs.l0 k (pre ++ post) m left (pre.length : Int)) (rOk m left post)
  | [], pre, left, h0, h1, hl => by
    refine Ev.step (f := fun _ => some true) (fun k => ?_) (Ev.now _)
    simp only [signalbenchref09_runs.l0]
    rw [if_neg (by simp)]
  | x :: post, pre, left, h0, h1, hl => by
    have hlt := mid_lt pre post x
    have hn : pre.length ≤ 9223372036854775806 := by
      simp only [List.length_append, List.length_cons] at hl
      omega
    unfold rOk
    by_cases c : 0 ≤ x.f0 ∧ x.f0 ≤ m ∧ 1 ≤ x.f1 ∧ x.f1 ≤ left
    · have ih := refruns_l0 m post (pre ++ [x]) (left - x.f1) (by omega) (by omega) (by simpa using hl)
      rw [← mid_snoc] at ih
      rw [if_pos c]
      refine Ev.step (fun k => ?_) ih
      simp only [signalbenchref09_runs.l0]
      rw [rd_mid, if_pos hlt, if_pos (by omega), if_neg (by omega), if_neg (by omega), if_neg (by omega), if_neg (by omega), w64 (by omega) (by omega), succ_mid _ _ hn]
    · rw [if_neg c]
      refine Ev.step (f := fun _ => some false) (fun k => ?_) (Ev.now _)
      simp only [signalbenchref09_runs.l0]
      rw [rd_mid, if_pos hlt, if_pos (by omega)]
      by_cases c1 : x.f0 < 0
      · rw [if_pos c1]
      · rw [if_neg c1]
        by_cases c2 : x.f0 > m
        · rw [if_pos c2]
        · rw [if_neg c2]
          by_cases c3 : x.f1 < 1
          · rw [if_pos c3]
          · rw [if_neg c3, if_pos (by omega)]
theorem refruns_ev (m : Int) {r : List S48} (hr : r.length ≤ 140737488351232) : Ev (fun k => signalbenchref09_runs.f k r m) (rOk m 1099511627776 r) :=
  Ev.congr (fun k => rfl) (refruns_l0 m r [] 1099511627776 (by omega) (by omega) (by simpa using hr))
theorem refCheck_ev {l : List ByteArray} {r : List S48} (hs : StrsOk l) (hl : l.length ≤ 140737488351232) (hr : r.length ≤ 140737488351232) : Ev (fun k => signalbenchref09_Check.f k l r) (chkV l r) := by
  unfold chkV
  by_cases c1 : 262144 < r.length
  · rw [if_pos c1]
    refine Ev.congr (fun k => ?_) (Ev.now _)
    unfold signalbenchref09_Check.f
    rw [if_pos (by omega)]
  · rw [if_neg c1]
    refine Ev.congr (f := fun k => (signalbenchref09_names.f k l).bind fun t216 => (if t216 = 0 then ((signalbenchref09_runs.f k r (mk l)).bind fun t217 => (if t217 = true then (some 0) else (some 2))) else (some t216))) (fun k => ?_) (Ev.bind (refnames_ev hs hl) ?_)
    · unfold signalbenchref09_Check.f
      rw [if_neg (by omega)]
      rfl
    · by_cases c2 : nmsV l = 0
      · rw [if_pos c2]
        refine Ev.congr (fun k => if_pos c2) (Ev.bind (refruns_ev (mk l) hr) ?_)
        by_cases c3 : rOk (mk l) 1099511627776 r = true
        · simp only [if_pos c3]
          exact Ev.now _
        · simp only [if_neg c3]
          exact Ev.now _
      · rw [if_neg c2]
        exact Ev.congr (fun k => if_neg c2) (Ev.now _)
/-- A run put behind runs. -/
def putR (o : List S48) (v t : Int) : List S48 :=
  match o.getLast? with
  | some y => if y.f0 = v then o.dropLast ++ [(⟨y.f0, y.f1 + t⟩ : S48)] else o ++ [(⟨v, t⟩ : S48)]
  | none => [(⟨v, t⟩ : S48)]
theorem putR_nil (v t : Int) : putR [] v t = [⟨v, t⟩] := rfl
theorem putR_same (o : List S48) (y : S48) (t : Int) : putR (o ++ [y]) y.f0 t = o ++ [⟨y.f0, y.f1 + t⟩] := by
  simp [putR]
theorem putR_new (o : List S48) (y : S48) {v t : Int} (h : ¬ y.f0 = v) : putR (o ++ [y]) v t = o ++ [y] ++ [⟨v, t⟩] := by
  simp [putR, h]
theorem snoc_cases {α : Type} (o : List α) : o = [] ∨ ∃ q y, o = q ++ [y] := by
  rcases List.eq_nil_or_concat o with h | ⟨q, y, h⟩
  · exact .inl h
  · exact .inr ⟨q, y, by simpa using h⟩
theorem join_eq {o : List S48} {v t : Int} (ho : o.length < 8796093022208) (h0 : 0 ≤ t) (hs : ∀ y ∈ o, 0 ≤ y.f1 ∧ y.f1 + t ≤ 9223372036854775807) : capture_join.f o v t = some (putR o v t) := by
  rcases snoc_cases o with rfl | ⟨q, y, rfl⟩
  · unfold capture_join.f
    rw [if_neg (by simp), if_pos (by simp)]
    rfl
  · have hy := hs y (by simp)
    have hq : q.length ≤ 9223372036854775806 := by
      simp only [List.length_append, List.length_cons, List.length_nil] at ho
      omega
    have hlt : (q.length : Int) < ((q ++ [y]).length : Int) := mid_lt q [] y
    unfold capture_join.f
    rw [last_at q y hq, rd_last, if_pos (by omega), if_pos (by omega), if_pos hlt]
    by_cases c : y.f0 = v
    · rw [if_pos c, set_last, w64 (by omega) (by omega), ← c, putR_same]
    · rw [if_neg c, if_pos ho, putR_new q y c]
theorem refput_eq {o : List S48} {v t : Int} (ho : o.length < 8796093022208) (h0 : 1 ≤ t) (hs : ∀ y ∈ o, 0 ≤ y.f1 ∧ y.f1 + t ≤ 9223372036854775807) : signalbenchref09_put.f o v t = some (putR o v t) := by
  rcases snoc_cases o with rfl | ⟨q, y, rfl⟩
  · unfold signalbenchref09_put.f
    rw [if_neg (by omega), if_neg (by simp), if_pos (by simp)]
    rfl
  · have hy := hs y (by simp)
    have hq : q.length ≤ 9223372036854775806 := by
      simp only [List.length_append, List.length_cons, List.length_nil] at ho
      omega
    have hlt : (q.length : Int) < ((q ++ [y]).length : Int) := mid_lt q [] y
    unfold signalbenchref09_put.f
    rw [last_at q y hq, rd_last, if_neg (by omega), if_pos (by omega), if_pos (by omega), if_pos hlt]
    by_cases c : y.f0 = v
    · rw [if_pos c, set_last, w64 (by omega) (by omega), ← c, putR_same]
    · rw [if_neg c, if_pos ho, putR_new q y c]
theorem putR_sm (o : List S48) (v t : Int) : sm (putR o v t) = sm o + t := by
  rcases snoc_cases o with rfl | ⟨q, y, rfl⟩
  · simp [putR_nil, sm]
  · by_cases c : y.f0 = v
    · rw [← c, putR_same]
      simp only [sm_append, sm]
      omega
    · rw [putR_new q y c]
      simp only [sm_append, sm]
      omega
theorem putR_len (o : List S48) (v t : Int) : (putR o v t).length ≤ o.length + 1 := by
  rcases snoc_cases o with rfl | ⟨q, y, rfl⟩
  · simp [putR_nil]
  · by_cases c : y.f0 = v
    · rw [← c, putR_same]
      simp
    · rw [putR_new q y c]
      simp
def cln : List S48 → List S48 → List S48
  | o, [] => o
  | o, x :: l => cln (putR o x.f0 x.f1) l
theorem cln_len : ∀ (l o : List S48), (cln o l).length ≤ o.length + l.length
  | [], o => by simp [cln]
  | x :: l, o => by
    have := cln_len l (putR o x.f0 x.f1)
    have := putR_len o x.f0 x.f1
    simp only [cln, List.length_cons]
    omega
def Tk (l : List S48) : Prop := ∀ y ∈ l, 1 ≤ y.f1
theorem RunsM.tk {m : Int} {l : List S48} (h : RunsM m l) : Tk l := fun y hy => (h y hy).2.2
theorem Tk.cons {x : S48} {l : List S48} (h : Tk (x :: l)) : 1 ≤ x.f1 ∧ Tk l := ⟨h x (by simp), fun y hy => h y (by simp [hy])⟩
theorem smT_nonneg : ∀ {l : List S48}, Tk l → 0 ≤ sm l
  | [], _ => Int.le_refl _
  | x :: l, h => by
    have h1 := h.cons
    have h2 := smT_nonneg h1.2
    simp only [sm]
    omega
theorem leT_sm : ∀ {l : List S48}, Tk l → ∀ y ∈ l, 0 ≤ y.f1 ∧ y.f1 ≤ sm l
  | [], h, y, hy => by simp at hy
  | x :: l, h, y, hy => by
    have hx := h.cons
    have h0 := smT_nonneg hx.2
    simp only [sm]
    rcases List.mem_cons.1 hy with rfl | hy
    · omega
    · have := leT_sm hx.2 y hy
      omega
theorem putR_tk {o : List S48} {v t : Int} (h : Tk o) (ht : 1 ≤ t) : Tk (putR o v t) := by
  rcases snoc_cases o with rfl | ⟨q, y, rfl⟩
  · intro x hx
    rw [putR_nil, List.mem_singleton] at hx
    subst hx
    exact ht
  · have hy := h y (by simp)
    by_cases c : y.f0 = v
    · rw [← c, putR_same]
      intro x hx
      rcases List.mem_append.1 hx with hx | hx
      · exact h x (by simp [hx])
      · rw [List.mem_singleton] at hx
        subst hx
        show 1 ≤ y.f1 + t
        omega
    · rw [putR_new q y c]
      intro x hx
      rcases List.mem_append.1 hx with hx | hx
      · exact h x hx
      · rw [List.mem_singleton] at hx
        subst hx
        exact ht
def bit (v i : Int) : Int := Go.bits .and .i64 (shr .i64 v i) 1
theorem lives12_ev : Ev (fun k => signalbenchlaw12_lives.f k) true := Ev.of (k := 60) (fun k => signalbenchlaw12_lives.mono k) (by decide +kernel)
def fewV12 (l : List ByteArray) (r : List S48) : Bool := decide (l.length ≤ 60 ∧ r.length ≤ 500)
theorem few12_eq (l : List ByteArray) (r : List S48) : signalbenchlaw12_few.f l r = some (fewV12 l r) := by
  unfold signalbenchlaw12_few.f fewV12
  by_cases c : l.length ≤ 60
  · rw [if_pos (by omega)]
    by_cases c1 : r.length ≤ 500
    · rw [decide_eq_true (by omega), decide_eq_true ⟨c, c1⟩]
    · rw [decide_eq_false (by omega), decide_eq_false (fun h => c1 h.2)]
  · rw [if_neg (by omega), decide_eq_false (fun h => c h.1)]
theorem equal12_l1 (l : List ByteArray) : ∀ (post pre : List S48), (pre ++ post).length ≤ 140737488351232 → Ev (fun k => signalbenchlaw12_equal.l1 k (pre.length : Int) l (pre ++ post) l (pre ++ post)) true
  | [], pre, hl => by
    refine Ev.step (f := fun _ => some true) (fun k => ?_) (Ev.now _)
    simp only [signalbenchlaw12_equal.l1]
    rw [if_neg (by simp)]
  | x :: post, pre, hl => by
    have hlt := mid_lt pre post x
    have hn : pre.length ≤ 9223372036854775806 := by
      simp only [List.length_append, List.length_cons] at hl
      omega
    have ih := equal12_l1 l post (pre ++ [x]) (by simpa using hl)
    rw [← mid_snoc] at ih
    refine Ev.step (fun k => ?_) ih
    simp only [signalbenchlaw12_equal.l1]
    rw [rd_mid, if_pos hlt, if_pos (by omega), if_pos hlt, if_neg (by simp), succ_mid _ _ hn]
theorem equal12_l0 (r : List S48) (hr : r.length ≤ 140737488351232) : ∀ (post pre : List ByteArray), (pre ++ post).length ≤ 140737488351232 → Ev (fun k => signalbenchlaw12_equal.l0 k (pre.length : Int) (pre ++ post) r (pre ++ post) r) true
  | [], pre, hl => by
    refine Ev.step (fun k => ?_) (equal12_l1 (pre ++ []) r [] (by simpa using hr))
    simp only [signalbenchlaw12_equal.l0]
    rw [if_neg (by simp)]
    rfl
  | x :: post, pre, hl => by
    have hlt := mids_lt pre post x
    have hn : pre.length ≤ 9223372036854775806 := by
      simp only [List.length_append, List.length_cons] at hl
      omega
    have ih := equal12_l0 r hr post (pre ++ [x]) (by simpa using hl)
    rw [← mid_snoc] at ih
    refine Ev.step (fun k => ?_) ih
    simp only [signalbenchlaw12_equal.l0]
    rw [if_pos hlt, if_pos (by omega), if_pos hlt, if_pos trivial, succ_mid _ _ hn]
theorem equal12_ev (l : List ByteArray) (r : List S48) (hl : l.length ≤ 140737488351232) (hr : r.length ≤ 140737488351232) : Ev (fun k => signalbenchlaw12_equal.f k l r l r) true := by
  refine Ev.congr (f := fun k => signalbenchlaw12_equal.j0 k ((r.length : Int) != (r.length : Int)) l r l r) (fun k => ?_) ?_
  · unfold signalbenchlaw12_equal.f
    rw [if_pos rfl]
  · rw [bne_self_eq_false]
    refine Ev.step (fun k => ?_) (equal12_l0 r hr l [] (by simpa using hl))
    simp only [signalbenchlaw12_equal.j0]
    rw [if_neg (by decide)]
    rfl
theorem rjoin (o : List S48) (v t : Int) : remap_join.f o v t = capture_join.f o v t := rfl
theorem clone_str {l : List ByteArray} (h : l.length ≤ 140737488351) : slices_Clone_string.f l = some l := by
  unfold slices_Clone_string.f
  rw [if_pos (by omega)]
/-- The reference's Clean of runs of any levels. -/
theorem refCleanT_l0 : ∀ (post pre o : List S48), Tk o → Tk post → sm o + sm post ≤ 1099511627776 → (pre ++ post).length ≤ 262144 → o.length + post.length ≤ 262144 →
    Ev (fun k => signalbenchref09_Clean.l0 k (pre ++ post) o (pre.length : Int)) (cln o post)
  | [], pre, o, h0, h1, hs, hl, ho => by
    refine Ev.step (f := fun _ => some o) (fun k => ?_) (Ev.now _)
    simp only [signalbenchref09_Clean.l0]
    rw [if_neg (by simp)]
  | x :: post, pre, o, h0, h1, hs, hl, ho => by
    have hx := h1.cons
    have h2 := smT_nonneg hx.2
    have h3 := smT_nonneg h0
    simp only [sm] at hs
    simp only [List.length_cons] at ho
    have hlt := mid_lt pre post x
    have hn : pre.length ≤ 9223372036854775806 := by
      simp only [List.length_append, List.length_cons] at hl
      omega
    have hj : signalbenchref09_put.f o x.f0 x.f1 = some (putR o x.f0 x.f1) := refput_eq (by omega) hx.1 (fun y hy => by have := leT_sm h0 y hy; omega)
    have ih := refCleanT_l0 post (pre ++ [x]) (putR o x.f0 x.f1) (putR_tk h0 hx.1) hx.2 (by rw [putR_sm]; omega) (by simpa using hl) (by have := putR_len o x.f0 x.f1; omega)
    rw [← mid_snoc] at ih
    refine Ev.step (fun k => ?_) ih
    simp only [signalbenchref09_Clean.l0]
    rw [rd_mid, if_pos hlt, if_pos (by omega), hj, Option.bind_some, succ_mid _ _ hn]
theorem refCleanT_ev {r : List S48} (h : Tk r) (hs : sm r ≤ 1099511627776) (hr : r.length ≤ 262144) : Ev (fun k => signalbenchref09_Clean.f k r) (cln [] r) :=
  Ev.congr (fun k => rfl) (refCleanT_l0 r [] [] (fun x hx => by simp at hx) h (by simp only [sm]; omega) (by simpa using hr) (by simpa using hr))
theorem data_toList (a : ByteArray) : a.toList = a.data.toList := by simp [ByteArray.toList_eq]
def tw (l : List ByteArray) : Bool := l.any (fun s => decide (1 < remap_twice.n s.data.toList l))
theorem twice_eq {l : List ByteArray} (hs : StrsOk l) (hl : l.length ≤ 140737488351232) : remap_twice.f l = some (tw l) := by
  unfold remap_twice.f
  rw [if_pos (List.all_eq_true.2 (fun s h => decide_eq_true (hs s h))), if_pos hl]
  rfl
theorem ixS_mem (s : ByteArray) : ∀ (l : List ByteArray) (n : Nat), ixS s n l ≥ 0 ↔ ∃ y ∈ l, s.toList = y.toList
  | [], n => by
    simp only [ixS, List.not_mem_nil, false_and, exists_false, iff_false]
    omega
  | t :: l, n => by
    unfold ixS
    by_cases c : s.toList = t.toList
    · rw [if_pos c]
      exact ⟨fun _ => ⟨t, by simp, c⟩, fun _ => by omega⟩
    · rw [if_neg c, ixS_mem s l (n + 1)]
      constructor
      · rintro ⟨y, hy, e⟩
        exact ⟨y, by simp [hy], e⟩
      · rintro ⟨y, hy, e⟩
        rcases List.mem_cons.1 hy with rfl | hy
        · exact absurd e c
        · exact ⟨y, hy, e⟩
theorem tw_snoc {pre : List ByteArray} {x : ByteArray} (h : tw pre = false) : tw (pre ++ [x]) = decide (ixS x 0 pre ≥ 0) := by
  have e1 : ∀ s, remap_twice.n s (pre ++ [x]) = remap_twice.n s pre + (if x.data.toList = s then 1 else 0) := by
    intro s
    rw [remap_twice.n_app]
    simp [remap_twice.n]
  by_cases c : ixS x 0 pre ≥ 0
  · rw [decide_eq_true c]
    obtain ⟨y, hy, e⟩ := (ixS_mem x pre 0).1 c
    have h1 := remap_twice.mem_n hy
    rw [← data_toList y, ← e, data_toList] at h1
    unfold tw
    rw [List.any_eq_true]
    refine ⟨x, by simp, decide_eq_true ?_⟩
    rw [e1, if_pos rfl]
    omega
  · rw [decide_eq_false c]
    have hno : ∀ y ∈ pre, ¬ x.data.toList = y.data.toList := by
      intro y hy e
      exact c ((ixS_mem x pre 0).2 ⟨y, hy, by rw [data_toList, data_toList, e]⟩)
    unfold tw at h ⊢
    rw [List.any_eq_false] at h ⊢
    intro s hs
    rw [e1]
    simp only [decide_eq_true_eq]
    rcases List.mem_append.1 hs with hs | hs
    · have h1 := h s hs
      simp only [decide_eq_true_eq] at h1
      rw [if_neg (hno s hs)]
      omega
    · rw [List.mem_singleton] at hs
      subst hs
      have h0 : remap_twice.n s.data.toList pre = 0 := by
        apply Classical.byContradiction
        intro hne
        obtain ⟨y, hy, e⟩ := remap_twice.n_mem (s := s.data.toList) (l := pre) (by omega)
        exact hno y hy e.symm
      rw [h0]
      split <;> omega
def selE (c : List ByteArray) : List ByteArray → List ByteArray → Int
  | _, [] => 0
  | pre, x :: post => if ixS x 0 c < 0 then 8 else if ixS x 0 pre ≥ 0 then 9 else selE c (pre ++ [x]) post
def selB (v : Int) : Int → Nat → List Int → Int
  | acc, _, [] => acc
  | acc, i, k :: ks => selB v (Go.bits .or .i64 acc (shl .i64 (bit v k) (i : Int))) (i + 1) ks
def selR (idx : List Int) (r : List S48) : List S48 := r.map (fun x => (⟨selB x.f0 0 0 idx, x.f1⟩ : S48))
def ixs (c names : List ByteArray) : List Int := names.map (fun x => ixS x 0 c)
def selV (c : List ByteArray) (r : List S48) (names : List ByteArray) : List ByteArray × List S48 × Int :=
  if chkV c r = 0 then (if names.length = 0 then ([], [], 1) else if selE c [] names = 0 then (names, cln [] (selR (ixs c names) r), 0) else ([], [], selE c [] names)) else ([], [], chkV c r)
theorem selR_sm (idx : List Int) : ∀ (r : List S48), sm (selR idx r) = sm r
  | [] => rfl
  | x :: r => by
    have := selR_sm idx r
    unfold selR at this ⊢
    simp only [List.map_cons, sm]
    rw [this]
theorem selR_tk {idx : List Int} {r : List S48} (h : Tk r) : Tk (selR idx r) := by
  intro y hy
  obtain ⟨x, hx, rfl⟩ := List.mem_map.1 hy
  exact h x hx
theorem Select_l2 (names : List ByteArray) (r : List S48) (i : Int) (v t : Int) (o : List S48) (idx : List Int) (hl : idx.length ≤ 262144) (hi : ∀ k ∈ idx, 0 ≤ k) (R : List ByteArray × List S48 × Int) : ∀ (post pre : List Int) (acc : Int), idx = pre ++ post →
    Ev (fun k => (remap_join.f o (selB v acc pre.length post) t).bind fun o' => remap_Select.l1 k idx r (r.length : Int) (wrap64 (i + 1)) names o') R →
    Ev (fun k => remap_Select.l2 k idx acc r (r.length : Int) i idx (idx.length : Int) (pre.length : Int) names o v t) R
  | [], pre, acc, e, h => by
    refine Ev.step (fun k => ?_) h
    simp only [remap_Select.l2]
    rw [if_neg (by rw [e]; simp)]
    rfl
  | k0 :: post, pre, acc, e, h => by
    have hlt : (pre.length : Int) < (idx.length : Int) := by
      rw [e]
      simp only [List.length_append, List.length_cons]
      omega
    have hr : rd idx (pre.length : Int) = k0 := by
      rw [e]
      simp [rd, List.getD]
    have hk := hi k0 (by rw [e]; simp)
    have ih := Select_l2 names r i v t o idx hl hi R post (pre ++ [k0]) (Go.bits .or .i64 acc (shl .i64 (bit v k0) (pre.length : Int))) (by simpa using e) (by rw [show (pre ++ [k0]).length = pre.length + 1 by simp]; exact h)
    refine Ev.step (fun k => ?_) ih
    simp only [remap_Select.l2]
    rw [if_pos hlt, if_pos (Int.natCast_nonneg _), if_pos hlt, hr, if_pos hk, succ_mid pre k0 (by omega)]
    rfl
theorem Select_l1 (names : List ByteArray) (idx : List Int) (hl : idx.length ≤ 262144) (hi : ∀ k ∈ idx, 0 ≤ k) : ∀ (post pre o : List S48), Tk o → Tk post → sm o + sm post ≤ 1099511627776 → (pre ++ post).length ≤ 262144 → o.length + post.length ≤ 262144 →
    Ev (fun k => remap_Select.l1 k idx (pre ++ post) ((pre ++ post).length : Int) (pre.length : Int) names o) (names, cln o (selR idx post), 0)
  | [], pre, o, h0, h1, hs, hn, ho => by
    refine Ev.step (f := fun _ => some (names, o, 0)) (fun k => ?_) (Ev.now _)
    simp only [remap_Select.l1]
    rw [if_neg (by simp)]
  | x :: post, pre, o, h0, h1, hs, hn, ho => by
    have hx := h1.cons
    have h2 := smT_nonneg hx.2
    have h3 := smT_nonneg h0
    simp only [sm] at hs
    simp only [List.length_cons] at ho
    have hlt := mid_lt pre post x
    have hpn : pre.length ≤ 9223372036854775806 := by
      simp only [List.length_append, List.length_cons] at hn
      omega
    have hj : capture_join.f o (selB x.f0 0 0 idx) x.f1 = some (putR o (selB x.f0 0 0 idx) x.f1) := join_eq (by omega) (by omega) (fun y hy => by have := leT_sm h0 y hy; omega)
    have ih := Select_l1 names idx hl hi post (pre ++ [x]) (putR o (selB x.f0 0 0 idx) x.f1) (putR_tk h0 hx.1) hx.2 (by rw [putR_sm]; omega) (by simpa using hn) (by have := putR_len o (selB x.f0 0 0 idx) x.f1; omega)
    rw [← mid_snoc] at ih
    have h4 := Select_l2 names (pre ++ x :: post) (pre.length : Int) x.f0 x.f1 o idx hl hi _ idx [] 0 rfl (Ev.congr (fun k => by rw [show ([] : List Int).length = 0 from rfl, rjoin, hj, Option.bind_some, succ_mid pre x hpn]) ih)
    refine Ev.step (fun k => ?_) h4
    simp only [remap_Select.l1]
    rw [rd_mid, if_pos hlt, if_pos (Int.natCast_nonneg _), if_pos hlt]
    rfl
theorem Select_l0 {c names : List ByteArray} {r : List S48} (hs : StrsOk names) (hn : names.length ≤ 262144) (hc : c.length ≤ 140737488351232) (hr : r.length ≤ 262144) (ht : Tk r) (hsm : sm r ≤ 1099511627776) : ∀ (post pre : List ByteArray), names = pre ++ post → tw pre = false → (∀ k ∈ ixs c pre, 0 ≤ k) →
    Ev (fun k => remap_Select.l0 k names (ixs c pre) names (names.length : Int) (pre.length : Int) c r) (if selE c pre post = 0 then (names, cln [] (selR (ixs c names) r), 0) else ([], [], selE c pre post))
  | [], pre, e, hw, hi => by
    have e1 : pre = names := by rw [e]; simp
    subst e1
    rw [if_pos (show selE c pre [] = 0 from rfl)]
    have h := Select_l1 pre (ixs c pre) (by rw [ixs, List.length_map]; omega) hi r [] [] (fun y hy => by simp at hy) ht (by simp only [sm]; omega) (by simpa using hr) (by simpa using hr)
    refine Ev.step (fun k => ?_) h
    simp only [remap_Select.l0]
    rw [if_neg (by omega), clone_str (by omega), Option.bind_some]
    rfl
  | x :: post, pre, e, hw, hi => by
    have hlt : (pre.length : Int) < (names.length : Int) := by
      rw [e]
      exact mids_lt pre post x
    have hrx : rdOf ByteArray.empty names (pre.length : Int) = x := by
      rw [e]
      exact rds_mid pre post x
    have ex := succ_mid pre x (by omega)
    have hle : (((pre ++ [x]).length : Nat) : Int) ≤ (names.length : Int) := by
      rw [e]
      simp only [List.length_append, List.length_cons, List.length_nil]
      omega
    have htk : names.take ((((pre ++ [x]).length : Nat) : Int)).toNat = pre ++ [x] := by
      rw [Int.toNat_natCast, e, mid_snoc pre post x]
      exact List.take_left ..
    have hpx : StrsOk (pre ++ [x]) := fun s h => hs s (by
      rw [e]
      rcases List.mem_append.1 h with h | h
      · simp [h]
      · rw [List.mem_singleton] at h
        simp [h])
    have htw := twice_eq hpx (by rw [e] at hn; simp only [List.length_append, List.length_cons, List.length_nil] at hn ⊢; omega)
    rw [tw_snoc hw] at htw
    have hq : (ixs c pre).length < 17592186044416 := by
      rw [ixs, List.length_map]
      omega
    have hst : ∀ k, remap_Select.l0 (k + 1) names (ixs c pre) names (names.length : Int) (pre.length : Int) c r = (slices_Index_string.f k c x).bind fun t427 => (if t427 < 0 then (some ([], [], 8)) else (if decide (ixS x 0 pre ≥ 0) = true then (some ([], [], 9)) else (remap_Select.l0 k names (ixs c pre ++ [t427]) names (names.length : Int) ((pre ++ [x]).length : Int) c r))) := by
      intro k
      simp only [remap_Select.l0]
      rw [if_pos hlt, if_pos (Int.natCast_nonneg _), if_pos hlt, hrx, ex]
      refine congrArg _ (funext fun t => ?_)
      rw [if_pos (Int.natCast_nonneg _), if_pos hle, htk, htw, Option.bind_some, if_pos hq]
    unfold selE
    refine Ev.step hst (Ev.bind (Index_ev c x hc) ?_)
    by_cases c1 : ixS x 0 c < 0
    · rw [if_pos c1, if_neg (by decide)]
      exact Ev.congr (fun k => if_pos c1) (Ev.now _)
    · rw [if_neg c1]
      refine Ev.congr (fun k => if_neg c1) ?_
      by_cases c2 : ixS x 0 pre ≥ 0
      · rw [if_pos c2, if_neg (by decide)]
        exact Ev.congr (fun k => if_pos (decide_eq_true c2)) (Ev.now _)
      · rw [if_neg c2]
        have ih := Select_l0 hs hn hc hr ht hsm post (pre ++ [x]) (by simpa using e) (by rw [tw_snoc hw]; exact decide_eq_false c2) (fun k hk => by
          rw [ixs, List.map_append] at hk
          rcases List.mem_append.1 hk with hk | hk
          · exact hi k hk
          · simp only [List.map_cons, List.map_nil, List.mem_singleton] at hk
            omega)
        rw [show ixs c (pre ++ [x]) = ixs c pre ++ [ixS x 0 c] by simp [ixs]] at ih
        exact Ev.congr (fun k => if_neg (by rw [decide_eq_false c2]; decide)) ih
theorem Select_ev {c names : List ByteArray} {r : List S48} (hs : StrsOk c) (hsn : StrsOk names) (hc : c.length ≤ 140737488351232) (hn : names.length ≤ 262144) (hr : r.length ≤ 140737488351232) : Ev (fun k => remap_Select.f k c r names) (selV c r names) := by
  unfold selV
  refine Ev.bind (Check_ev hs hc hr) ?_
  by_cases c0 : chkV c r = 0
  · rw [if_pos c0]
    refine Ev.congr (fun k => if_pos c0) ?_
    have h := chk_0 c0
    by_cases c1 : names.length = 0
    · rw [if_pos c1]
      exact Ev.congr (fun k => if_pos (by omega)) (Ev.now _)
    · rw [if_neg c1]
      exact Ev.congr (fun k => if_neg (by omega)) (Select_l0 hsn hn hc h.1 h.2.2.1.tk h.2.2.2 names [] rfl rfl (fun k hk => by simp [ixs] at hk))
  · rw [if_neg c0]
    exact Ev.congr (fun k => if_neg c0) (Ev.now _)
theorem place12_l0 (s : ByteArray) : ∀ (post pre : List ByteArray), (pre ++ post).length ≤ 140737488351232 →
    Ev (fun k => signalbenchref12_place.l0 k (pre ++ post) s (pre.length : Int)) (ixS s pre.length post)
  | [], pre, hl => by
    refine Ev.step (f := fun _ => some (-1)) (fun k => ?_) (Ev.now _)
    simp only [signalbenchref12_place.l0]
    rw [if_neg (by simp)]
  | x :: post, pre, hl => by
    have hlt := mids_lt pre post x
    have hn : pre.length ≤ 9223372036854775806 := by
      simp only [List.length_append, List.length_cons] at hl
      omega
    have hst : ∀ k, signalbenchref12_place.l0 (k + 1) (pre ++ x :: post) s (pre.length : Int) = if x.toList = s.toList then some (pre.length : Int) else signalbenchref12_place.l0 k (pre ++ x :: post) s ((pre ++ [x]).length : Int) := by
      intro k
      simp only [signalbenchref12_place.l0]
      rw [rds_mid, if_pos hlt, if_pos (by omega), succ_mid _ _ hn]
    unfold ixS
    by_cases c : s.toList = x.toList
    · rw [if_pos c]
      exact Ev.step (fun k => (hst k).trans (if_pos c.symm)) (Ev.now _)
    · rw [if_neg c]
      have ih := place12_l0 s post (pre ++ [x]) (by simpa using hl)
      rw [← mid_snoc] at ih
      have e : (pre ++ [x]).length = pre.length + 1 := by simp
      rw [e] at ih
      refine Ev.step (fun k => (hst k).trans (if_neg (fun h => c h.symm))) ?_
      rw [e]
      exact ih
theorem place12_ev (l : List ByteArray) (s : ByteArray) (hl : l.length ≤ 140737488351232) : Ev (fun k => signalbenchref12_place.f k l s) (ixS s 0 l) := Ev.congr (fun k => rfl) (place12_l0 s l [] (by simpa using hl))
theorem refSel_l2 {c names : List ByteArray} (hc : c.length ≤ 140737488351232) (hn : names.length ≤ 262144) (hi : ∀ k ∈ ixs c names, 0 ≤ k) (r pre0 post0 : List S48) (x : S48) (hr : r = pre0 ++ x :: post0) (hrl : r.length ≤ 262144) (o : List S48) (ho : o.length ≤ 262144) (R : List ByteArray × List S48 × Int) : ∀ (post pre : List ByteArray) (acc : Int), names = pre ++ post →
    Ev (fun k => signalbenchref12_Select.l1 k names (((pre0 ++ [x]).length : Nat) : Int) c r names (o ++ [(⟨selB x.f0 acc pre.length (ixs c post), x.f1⟩ : S48)])) R →
    Ev (fun k => signalbenchref12_Select.l2 k names (pre0.length : Int) acc (pre.length : Int) c r names o) R
  | [], pre, acc, e, h => by
    have hlt : (pre0.length : Int) < (r.length : Int) := by
      rw [hr]
      exact mid_lt pre0 post0 x
    have hx : rd_T48 r (pre0.length : Int) = x := by
      rw [hr]
      exact rd_mid pre0 post0 x
    refine Ev.step (fun k => ?_) h
    simp only [signalbenchref12_Select.l2]
    rw [if_neg (by rw [e]; simp), if_pos (Int.natCast_nonneg _), if_pos hlt, if_pos (by omega), hx, succ_mid pre0 x (by omega)]
    rfl
  | y :: post, pre, acc, e, h => by
    have hlt0 : (pre0.length : Int) < (r.length : Int) := by
      rw [hr]
      exact mid_lt pre0 post0 x
    have hx : rd_T48 r (pre0.length : Int) = x := by
      rw [hr]
      exact rd_mid pre0 post0 x
    have hlt : (pre.length : Int) < (names.length : Int) := by
      rw [e]
      exact mids_lt pre post y
    have hry : rdOf ByteArray.empty names (pre.length : Int) = y := by
      rw [e]
      exact rds_mid pre post y
    have hk := hi (ixS y 0 c) (by rw [e, ixs]; simp)
    have ih := refSel_l2 hc hn hi r pre0 post0 x hr hrl o ho R post (pre ++ [y]) (Go.bits .or .i64 acc (shl .i64 (bit x.f0 (ixS y 0 c)) (pre.length : Int))) (by simpa using e) (by rw [show (pre ++ [y]).length = pre.length + 1 by simp]; exact h)
    have ex := succ_mid pre y (by omega)
    refine Ev.step (f := fun k => (signalbenchref12_place.f k c y).bind fun t463 => (if 0 ≤ t463 then (signalbenchref12_Select.l2 k names (pre0.length : Int) (Go.bits .or .i64 acc (shl .i64 (bit x.f0 t463) (pre.length : Int))) ((pre ++ [y]).length : Int) c r names o) else (none))) (fun k => ?_) (Ev.bind (place12_ev c y hc) (Ev.congr (fun k => if_pos hk) ih))
    simp only [signalbenchref12_Select.l2]
    rw [if_pos hlt, if_pos (Int.natCast_nonneg _), if_pos hlt0, if_pos (Int.natCast_nonneg _), hry, hx, ex]
    rfl
theorem refSel_l1 {c names : List ByteArray} (hc : c.length ≤ 140737488351232) (hn : names.length ≤ 262144) (hi : ∀ k ∈ ixs c names, 0 ≤ k) {r : List S48} (hrl : r.length ≤ 262144) (ht : Tk r) (hsm : sm r ≤ 1099511627776) : ∀ (post pre : List S48), r = pre ++ post →
    Ev (fun k => signalbenchref12_Select.l1 k names (pre.length : Int) c r names (selR (ixs c names) pre)) (names, cln [] (selR (ixs c names) r), 0)
  | [], pre, e => by
    have e1 : pre = r := by rw [e]; simp
    subst e1
    have hcl : Ev (fun k => signalbenchref09_Clean.f k (selR (ixs c names) pre)) (cln [] (selR (ixs c names) pre)) := refCleanT_ev (selR_tk ht) (by rw [selR_sm]; exact hsm) (by unfold selR; rw [List.length_map]; exact hrl)
    refine Ev.step (f := fun k => (signalbenchref09_Clean.f k (selR (ixs c names) pre)).bind fun t458 => (some (names, t458, 0))) (fun k => ?_) (Ev.bind hcl (Ev.now _))
    simp only [signalbenchref12_Select.l1]
    rw [if_neg (by omega)]
  | x :: post, pre, e => by
    have hlt : (pre.length : Int) < (r.length : Int) := by
      rw [e]
      exact mid_lt pre post x
    have ih := refSel_l1 hc hn hi hrl ht hsm post (pre ++ [x]) (by simpa using e)
    rw [show selR (ixs c names) (pre ++ [x]) = selR (ixs c names) pre ++ [(⟨selB x.f0 0 0 (ixs c names), x.f1⟩ : S48)] by simp [selR]] at ih
    have h2 := refSel_l2 hc hn hi r pre post x e hrl (selR (ixs c names) pre) (by unfold selR; rw [List.length_map]; omega) _ names [] 0 rfl ih
    refine Ev.step (fun k => ?_) h2
    simp only [signalbenchref12_Select.l1]
    rw [if_pos hlt]
    rfl
theorem selE_ix {c : List ByteArray} : ∀ (post pre : List ByteArray), selE c pre post = 0 → ∀ k ∈ ixs c post, 0 ≤ k
  | [], pre, h, k, hk => by simp [ixs] at hk
  | x :: post, pre, h, k, hk => by
    unfold selE at h
    by_cases c1 : ixS x 0 c < 0
    · rw [if_pos c1] at h
      omega
    · rw [if_neg c1] at h
      by_cases c2 : ixS x 0 pre ≥ 0
      · rw [if_pos c2] at h
        omega
      · rw [if_neg c2] at h
        rcases List.mem_cons.1 (show k ∈ ixS x 0 c :: ixs c post from hk) with rfl | hk
        · omega
        · exact selE_ix post (pre ++ [x]) h k hk
theorem refSel_l0 {c names : List ByteArray} {r : List S48} (hn : names.length ≤ 262144) (hc : c.length ≤ 140737488351232) (R : List ByteArray × List S48 × Int) : ∀ (post pre : List ByteArray), names = pre ++ post →
    (selE c pre post = 0 → Ev (fun k => signalbenchref12_Select.l1 k names 0 c r names []) R) →
    Ev (fun k => signalbenchref12_Select.l0 k names (pre.length : Int) c r) (if selE c pre post = 0 then R else ([], [], selE c pre post))
  | [], pre, e, h => by
    have e1 : pre = names := by rw [e]; simp
    subst e1
    rw [if_pos (show selE c pre [] = 0 from rfl)]
    refine Ev.step (fun k => ?_) (h rfl)
    simp only [signalbenchref12_Select.l0]
    rw [if_neg (by omega), Option.bind_some, if_pos (by simp only [List.length_nil]; omega)]
    rfl
  | x :: post, pre, e, h => by
    have hlt : (pre.length : Int) < (names.length : Int) := by
      rw [e]
      exact mids_lt pre post x
    have hrx : rdOf ByteArray.empty names (pre.length : Int) = x := by
      rw [e]
      exact rds_mid pre post x
    have ex := succ_mid pre x (by omega)
    have htk : names.take (((pre.length : Nat) : Int)).toNat = pre := by
      rw [Int.toNat_natCast, e]
      exact List.take_left ..
    have hp2 : pre.length ≤ 140737488351232 := by omega
    refine Ev.step (f := fun k => (signalbenchref12_place.f k c x).bind fun t447 => (if t447 < 0 then (some ([], [], 8)) else ((signalbenchref12_place.f k pre x).bind fun t450 => (if t450 ≥ 0 then (some ([], [], 9)) else (signalbenchref12_Select.l0 k names ((pre ++ [x]).length : Int) c r))))) (fun k => ?_) (Ev.bind (place12_ev c x hc) ?_)
    · simp only [signalbenchref12_Select.l0]
      rw [if_pos hlt, if_pos (Int.natCast_nonneg _), hrx, ex, htk]
      refine congrArg _ (funext fun t => ?_)
      rw [if_pos (show (pre.length : Int) ≤ (names.length : Int) by omega)]
    · unfold selE at h ⊢
      by_cases c1 : ixS x 0 c < 0
      · rw [if_pos c1, if_neg (by decide)]
        exact Ev.congr (fun k => if_pos c1) (Ev.now _)
      · rw [if_neg c1] at h ⊢
        refine Ev.congr (fun k => if_neg c1) (Ev.bind (place12_ev pre x hp2) ?_)
        by_cases c2 : ixS x 0 pre ≥ 0
        · rw [if_pos c2, if_neg (by decide)]
          exact Ev.congr (fun k => if_pos c2) (Ev.now _)
        · rw [if_neg c2] at h ⊢
          exact Ev.congr (fun k => if_neg c2) (refSel_l0 hn hc R post (pre ++ [x]) (by simpa using e) h)
theorem refSelect_ev {c names : List ByteArray} {r : List S48} (hs : StrsOk c) (hc : c.length ≤ 140737488351232) (hn : names.length ≤ 262144) (hr : r.length ≤ 140737488351232) : Ev (fun k => signalbenchref12_Select.f k c r names) (selV c r names) := by
  unfold selV
  refine Ev.bind (refCheck_ev hs hc hr) ?_
  by_cases c0 : chkV c r = 0
  · rw [if_pos c0]
    refine Ev.congr (fun k => if_pos c0) ?_
    have h := chk_0 c0
    by_cases c1 : names.length = 0
    · rw [if_pos c1]
      exact Ev.congr (fun k => if_pos (by omega)) (Ev.now _)
    · rw [if_neg c1]
      exact Ev.congr (fun k => if_neg (by omega)) (refSel_l0 hn hc _ names [] rfl (fun h0 => refSel_l1 hc hn (selE_ix names [] h0) h.1 h.2.2.1.tk h.2.2.2 r [] rfl))
  · rw [if_neg c0]
    exact Ev.congr (fun k => if_neg c0) (Ev.now _)
theorem selV_len (c names : List ByteArray) (r : List S48) : (selV c r names).1.length ≤ names.length ∧ (selV c r names).2.1.length ≤ r.length := by
  unfold selV
  by_cases c0 : chkV c r = 0
  · rw [if_pos c0]
    by_cases c1 : names.length = 0
    · rw [if_pos c1]
      simp
    · rw [if_neg c1]
      by_cases c2 : selE c [] names = 0
      · rw [if_pos c2]
        have h := cln_len (selR (ixs c names) r) []
        rw [show (selR (ixs c names) r).length = r.length by simp [selR]] at h
        exact ⟨Nat.le_refl _, by simpa using h⟩
      · rw [if_neg c2]
        simp
  · rw [if_neg c0]
    simp
theorem RemapSelects_pure {l names : List ByteArray} {r : List S48} (hs : StrsOk l) (hsn : StrsOk names) : ∃ k, signalbenchlaw12_RemapSelects.f k l r names = some true := by
  refine Ev.rounds (Ev.bind lives12_ev (Ev.congr (fun k => if_pos rfl) ?_))
  have hj : Ev (fun k => signalbenchlaw12_RemapSelects.j0 k names true l r) true := Ev.step (f := fun _ => some true) (fun k => by simp only [signalbenchlaw12_RemapSelects.j0]; rfl) (Ev.now _)
  rw [few12_eq]
  refine Ev.congr (fun k => Option.bind_some _ _) ?_
  by_cases c : fewV12 l r = true
  · have hf : l.length ≤ 60 ∧ r.length ≤ 500 := of_decide_eq_true c
    refine Ev.congr (fun k => if_pos c) ?_
    by_cases c1 : names.length > 60
    · rw [decide_eq_true (by omega)]
      exact hj
    · rw [decide_eq_false (by omega)]
      have hv := selV_len l names r
      refine Ev.step (f := fun k => (remap_Select.f k l r names).bind fun bt471 => ((signalbenchref12_Select.f k l r names).bind fun bt479 => (if bt471.2.2 = bt479.2.2 then ((signalbenchlaw12_equal.f k bt471.1 bt471.2.1 bt479.1 bt479.2.1).bind fun t487 => (some t487)) else (some false)))) (fun k => ?_) (Ev.bind (Select_ev hs hsn (by omega) (by omega) (by omega)) (Ev.bind (refSelect_ev hs (by omega) (by omega) (by omega)) (Ev.congr (fun k => if_pos rfl) (Ev.bind (equal12_ev _ _ (by omega) (by omega)) (Ev.now _)))))
      simp only [signalbenchlaw12_RemapSelects.j0]
      rw [if_neg (by decide)]
  · exact Ev.congr (fun k => if_neg c) hj
end Go.Proofs.Ytllpgidmdomfcaa
