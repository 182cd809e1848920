/- The law RemapMerges as a plain statement on numbers and lists: with enough rounds it answers true; conditions: each number is one of its kind, no list or string is longer than its memory allows. -/
import Derived.Laws.BitsAllLaws
import Derived.WalkKit
import Derived.Test.YtllpgidmdomfcaaWMore
import Derived.Laws.Strings
import Derived.Test.YtllpgidmdomfcaaQx0
import Derived.Test.YtllpgidmdomfcaaQx2
import Derived.Test.YtllpgidmdomfcaaQx3
import Derived.Test.YtllpgidmdomfcaaQx4
import Derived.Test.YtllpgidmdomfcaaQx6
import Derived.Test.YtllpgidmdomfcaaQx7
import Derived.Test.YtllpgidmdomfcaaQx8
import Derived.Test.YtllpgidmdomfcaaQx9
import Derived.Test.YtllpgidmdomfcaaQx12
import Derived.Test.YtllpgidmdomfcaaQx13
import Derived.Test.YtllpgidmdomfcaaQx14
import Derived.Test.YtllpgidmdomfcaaQx15
import Derived.Test.YtllpgidmdomfcaaQx16
import Derived.Test.YtllpgidmdomfcaaQx17
import Derived.Test.YtllpgidmdomfcaaQx22
import Derived.Test.YtllpgidmdomfcaaQx23
import Derived.Test.YtllpgidmdomfcaaQx26
import Derived.Test.YtllpgidmdomfcaaQx27
import Derived.Test.YtllpgidmdomfcaaQx31
namespace Go.Proofs.Ytllpgidmdomfcaa
open Go Go.RowKit Go.Proofs.YtllpgidmdomfcaaW.PrintWords Go.Proofs.YtllpgidmdomfcaaW.PrintLast Go.Proofs.Ytllpgidmdomfcaa.Q Go.Proofs.YtllpgidmdomfcaaW.PrintMore
set_option linter.unusedVariables false
theorem w64 {x : Int} (h0 : -9223372036854775808 ≤ x) (h1 : x ≤ 9223372036854775807) : wrap64 x = x := by
  unfold wrap64
  omega
theorem succ_mid {α : Type} (pre : List α) (x : α) (h : pre.length ≤ 9223372036854775806) : wrap64 ((pre.length : Int) + 1) = ((pre ++ [x]).length : Int) := by
  rw [w64 (by omega) (by omega)]
  simp
theorem mid_snoc {α : Type} (pre post : List α) (x : α) : pre ++ x :: post = (pre ++ [x]) ++ post := by simp
def sm : List S48 → Int
  | [] => 0
  | x :: l => x.f1 + sm l
def RunsOk (l : List S48) : Prop := ∀ x ∈ l, (x.f0 = 0 ∨ x.f0 = 1) ∧ 1 ≤ x.f1
theorem rd_mid (pre post : List S48) (x : S48) : rd_T48 (pre ++ x :: post) (pre.length : Int) = x := by simp [rd_T48, List.getD]
theorem mid_lt (pre post : List S48) (x : S48) : (pre.length : Int) < ((pre ++ x :: post).length : Int) := by
  simp only [List.length_append, List.length_cons]
  omega
theorem sm_append : ∀ (a b : List S48), sm (a ++ b) = sm a + sm b
  | [], b => by simp [sm]
  | x :: a, b => by
    have := sm_append a b
    simp only [List.cons_append, sm]
    omega
theorem RunsOk.cons {x : S48} {l : List S48} (h : RunsOk (x :: l)) : ((x.f0 = 0 ∨ x.f0 = 1) ∧ 1 ≤ x.f1) ∧ RunsOk l := ⟨h x (by simp), fun y hy => h y (by simp [hy])⟩
theorem RunsOk.left {a b : List S48} (h : RunsOk (a ++ b)) : RunsOk a := fun x hx => h x (List.mem_append_left _ hx)
def atS : List S48 → Int → Int × Bool
  | [], _ => (-1, false)
  | x :: l, t => if t < x.f1 then (x.f0, true) else atS l (t - x.f1)
def jnc (x : S48) : List S48 → List S48
  | [] => [x]
  | y :: l => if x.f0 = y.f0 then jnc ⟨x.f0, x.f1 + y.f1⟩ l else x :: jnc y l
def jn : List S48 → List S48
  | [] => []
  | x :: l => jnc x l
theorem last_at (o : List S48) (x : S48) (h : o.length ≤ 9223372036854775806) : wrap64 (((o ++ [x]).length : Int) - 1) = (o.length : Int) := by
  rw [w64 (by simp only [List.length_append, List.length_cons, List.length_nil]; omega) (by simp only [List.length_append, List.length_cons, List.length_nil]; omega)]
  simp
theorem rd_last (o : List S48) (x : S48) : rd_T48 (o ++ [x]) (o.length : Int) = x := rd_mid o [] x
theorem set_last (o : List S48) (x y : S48) : (o ++ [x]).set ((o.length : Int)).toNat y = o ++ [y] := by
  rw [Int.toNat_natCast, List.set_append_right _ _ (Nat.le_refl _), Nat.sub_self]
  rfl
/-- No two runs of one level side by side: behind a run of level p. -/
def apartF : Int → List S48 → Prop
  | _, [] => True
  | p, x :: l => p ≠ x.f0 ∧ apartF x.f0 l
def apart : List S48 → Prop
  | [] => True
  | x :: l => apartF x.f0 l
theorem jnc_head : ∀ (l : List S48) (x : S48), ∃ t m, jnc x l = ⟨x.f0, t⟩ :: m
  | [], x => ⟨x.f1, [], rfl⟩
  | y :: l, x => by
    unfold jnc
    split
    · exact jnc_head l ⟨x.f0, x.f1 + y.f1⟩
    · exact ⟨x.f1, _, rfl⟩
theorem jnc_apart : ∀ (l : List S48) (x : S48), apart (jnc x l)
  | [], x => trivial
  | y :: l, x => by
    unfold jnc
    split
    · exact jnc_apart l _
    · rename_i c
      obtain ⟨t, m, e⟩ := jnc_head l y
      have h := jnc_apart l y
      rw [e] at h ⊢
      exact ⟨c, h⟩
theorem jn_apart (l : List S48) : apart (jn l) := by
  cases l with
  | nil => trivial
  | cons x l => exact jnc_apart l x
theorem set_mid (pre post : List S48) (x y : S48) : (pre ++ x :: post).set ((pre.length : Int)).toNat y = pre ++ y :: post := by
  rw [Int.toNat_natCast, List.set_append_right _ _ (Nat.le_refl _), Nat.sub_self]
  rfl
def wd (c : Int) : Bool := if 97 ≤ c ∧ c ≤ 122 then true else if 48 ≤ c ∧ c ≤ 57 then true else if c = 95 then true else false
def wAll (s : ByteArray) : Nat → Nat → Bool
  | 0, _ => true
  | m + 1, i => if wd (bt s (i : Int)) = true then wAll s m (i + 1) else false
def nmOk (s : ByteArray) : Bool := if s.size = 0 then false else if 16 < s.size then false else if 97 ≤ bt s 0 ∧ bt s 0 ≤ 122 then wAll s s.size 0 else false
theorem w32 {x : Int} (h0 : 0 ≤ x) (h1 : x ≤ 255) : wrap32 x = x := by
  unfold wrap32
  omega
theorem nil_iff (s : ByteArray) : s.toList = ([] : List UInt8) ↔ s.size = 0 := by
  rw [ByteArray.toList_eq, ← List.length_eq_zero_iff, data_length]
theorem wd_1 {c : Int} (h : 97 ≤ c ∧ c ≤ 122) : wd c = true := by
  unfold wd
  rw [if_pos h]
theorem wd_2 {c : Int} (h : 48 ≤ c ∧ c ≤ 57) : wd c = true := by
  unfold wd
  rw [if_neg (by omega), if_pos h]
theorem wd_3 {c : Int} (h : c = 95) : wd c = true := by
  unfold wd
  rw [if_neg (by omega), if_neg (by omega), if_pos h]
theorem wd_0 {c : Int} (h : ¬ (97 ≤ c ∧ c ≤ 122)) (h1 : ¬ (48 ≤ c ∧ c ≤ 57)) (h2 : ¬ c = 95) : wd c = false := by
  unfold wd
  rw [if_neg h, if_neg h1, if_neg h2]
theorem lex_letter_eq (c : Int) : lex_letter.f c = some (decide (97 ≤ c ∧ c ≤ 122)) := by
  unfold lex_letter.f
  by_cases h : 97 ≤ c <;> simp [h]
theorem lex_word_eq (c : Int) : lex_word.f c = some (wd c) := by
  unfold lex_word.f lex_digit.f wd
  rw [lex_letter_eq]
  by_cases h : 97 ≤ c ∧ c ≤ 122
  · simp [h]
  · by_cases h1 : 48 ≤ c
    · by_cases h2 : c ≤ 57
      · simp [h, h1, h2]
      · by_cases h3 : c = 95 <;> simp [h, h1, h2, h3]
    · by_cases h3 : c = 95 <;> simp [h, h1, h3]
theorem lex_Name_l0 (s : ByteArray) (hs : s.size ≤ 140737488351232) : ∀ (m i : Nat), i + m = s.size → Ev (fun k => lex_Name.l0 k s (s.size : Int) (i : Int)) (wAll s m i)
  | 0, i, h => by
    refine Ev.step (f := fun _ => some true) (fun k => ?_) (Ev.now _)
    simp only [lex_Name.l0]
    rw [if_neg (by omega)]
  | m + 1, i, h => by
    have hb := bt_range s (i : Int)
    have hst : ∀ k, lex_Name.l0 (k + 1) s (s.size : Int) (i : Int) = if wd (bt s (i : Int)) = true then lex_Name.l0 k s (s.size : Int) ((i + 1 : Nat) : Int) else some false := by
      intro k
      simp only [lex_Name.l0]
      rw [if_pos (by omega), if_pos (by omega), if_pos (by omega), lex_word_eq, w32 hb.1 hb.2, Option.bind_some, w64 (by omega) (by omega)]
      rfl
    unfold wAll
    by_cases c : wd (bt s (i : Int)) = true
    · rw [if_pos c]
      exact Ev.step (fun k => (hst k).trans (if_pos c)) (lex_Name_l0 s hs m (i + 1) (by omega))
    · rw [if_neg c]
      exact Ev.step (fun k => (hst k).trans (if_neg c)) (Ev.now _)
theorem lex_Name_ev (s : ByteArray) (hs : s.size ≤ 140737488351232) : Ev (fun k => lex_Name.f k s) (nmOk s) := by
  have hb := bt_range s 0
  have hj : Ev (fun k => lex_Name.j0 k s true) false := Ev.step (f := fun _ => some false) (fun k => by simp only [lex_Name.j0]; rfl) (Ev.now _)
  unfold nmOk
  by_cases h0 : s.size = 0
  · rw [if_pos h0]
    refine Ev.congr (fun k => ?_) hj
    unfold lex_Name.f
    rw [if_pos ((nil_iff s).2 h0)]
  · rw [if_neg h0]
    have hn : ¬ s.toList = [] := fun h => h0 ((nil_iff s).1 h)
    by_cases h1 : 16 < s.size
    · rw [if_pos h1]
      refine Ev.congr (fun k => ?_) hj
      unfold lex_Name.f
      rw [if_neg hn, if_pos (by omega)]
    · rw [if_neg h1]
      have e : ∀ k, lex_Name.f k s = lex_Name.j0 k s (!(decide (97 ≤ bt s 0 ∧ bt s 0 ≤ 122))) := by
        intro k
        unfold lex_Name.f
        rw [if_neg hn, if_neg (by omega), if_pos (by omega), lex_letter_eq, w32 hb.1 hb.2]
        rfl
      refine Ev.congr e ?_
      by_cases h2 : 97 ≤ bt s 0 ∧ bt s 0 ≤ 122
      · rw [if_pos h2, decide_eq_true h2]
        refine Ev.step (fun k => ?_) (lex_Name_l0 s hs s.size 0 (by omega))
        simp only [lex_Name.j0]
        rw [if_neg (by decide)]
        rfl
      · rw [if_neg h2, decide_eq_false h2]
        exact hj
theorem ref_name_step (s : ByteArray) (hs : s.size ≤ 140737488351232) (i : Nat) (h : i < s.size) (k : Nat) :
    signalbenchref09_name.l0 (k + 1) s (i : Int) = if wd (bt s (i : Int)) = true then signalbenchref09_name.l0 k s ((i + 1 : Nat) : Int) else some false := by
  have e : wrap64 ((i : Int) + 1) = ((i + 1 : Nat) : Int) := by
    rw [w64 (by omega) (by omega)]
    rfl
  simp only [signalbenchref09_name.l0]
  rw [if_pos (by omega), if_pos (by omega), e]
  generalize bt s (i : Int) = c
  by_cases h1 : c ≥ 97
  · by_cases h2 : c ≤ 122
    · rw [if_pos h1, if_pos (by omega), if_pos h2, wd_1 ⟨h1, h2⟩, if_pos rfl]
    · rw [if_pos h1, if_pos (by omega), if_neg h2, if_neg (by omega), if_neg (by omega), wd_0 (by omega) (by omega) (by omega), if_neg (by decide)]
  · rw [if_neg h1]
    by_cases h3 : c ≥ 48
    · rw [if_pos h3]
      by_cases h4 : c ≤ 57
      · rw [if_pos h4, wd_2 ⟨h3, h4⟩, if_pos rfl]
      · rw [if_neg h4]
        by_cases h5 : c = 95
        · rw [if_pos h5, wd_3 h5, if_pos rfl]
        · rw [if_neg h5, wd_0 (by omega) (by omega) h5, if_neg (by decide)]
    · rw [if_neg h3]
      by_cases h5 : c = 95
      · rw [if_pos h5, wd_3 h5, if_pos rfl]
      · rw [if_neg h5, wd_0 (by omega) (by omega) h5, if_neg (by decide)]
theorem ref_name_l0 (s : ByteArray) (hs : s.size ≤ 140737488351232) : ∀ (m i : Nat), i + m = s.size → Ev (fun k => signalbenchref09_name.l0 k s (i : Int)) (wAll s m i)
  | 0, i, h => by
    refine Ev.step (f := fun _ => some true) (fun k => ?_) (Ev.now _)
    simp only [signalbenchref09_name.l0]
    rw [if_neg (by omega)]
  | m + 1, i, h => by
    have hst := ref_name_step s hs i (by omega)
    unfold wAll
    by_cases c : wd (bt s (i : Int)) = true
    · rw [if_pos c]
      exact Ev.step (fun k => (hst k).trans (if_pos c)) (ref_name_l0 s hs m (i + 1) (by omega))
    · rw [if_neg c]
      exact Ev.step (fun k => (hst k).trans (if_neg c)) (Ev.now _)
theorem ref_name_ev (s : ByteArray) (hs : s.size ≤ 140737488351232) : Ev (fun k => signalbenchref09_name.f k s) (nmOk s) := by
  have hj : Ev (fun k => signalbenchref09_name.j0 k s true) false := Ev.step (f := fun _ => some false) (fun k => by simp only [signalbenchref09_name.j0]; rfl) (Ev.now _)
  unfold nmOk
  by_cases h0 : s.size = 0
  · rw [if_pos h0]
    refine Ev.congr (fun k => ?_) hj
    unfold signalbenchref09_name.f
    rw [if_pos ((nil_iff s).2 h0)]
  · rw [if_neg h0]
    have hn : ¬ s.toList = [] := fun h => h0 ((nil_iff s).1 h)
    by_cases h1 : 16 < s.size
    · rw [if_pos h1]
      refine Ev.congr (fun k => ?_) hj
      unfold signalbenchref09_name.f
      rw [if_neg hn, if_pos (by omega)]
    · rw [if_neg h1]
      by_cases h3 : bt s 0 < 97
      · rw [if_neg (by omega)]
        refine Ev.congr (fun k => ?_) hj
        unfold signalbenchref09_name.f
        rw [if_neg hn, if_neg (by omega), if_pos (by omega), if_pos h3]
      · have e : ∀ k, signalbenchref09_name.f k s = signalbenchref09_name.j0 k s (decide (bt s 0 > 122)) := by
          intro k
          unfold signalbenchref09_name.f
          rw [if_neg hn, if_neg (by omega), if_pos (by omega), if_neg h3]
        refine Ev.congr e ?_
        by_cases h2 : bt s 0 > 122
        · rw [if_neg (by omega), decide_eq_true h2]
          exact hj
        · rw [if_pos (by omega), decide_eq_false h2]
          refine Ev.step (fun k => ?_) (ref_name_l0 s hs s.size 0 (by omega))
          simp only [signalbenchref09_name.j0]
          rw [if_neg (by decide)]
          rfl
def StrsOk (l : List ByteArray) : Prop := ∀ s ∈ l, s.size ≤ 140737488351232
def nmA : List ByteArray → Bool
  | [] => true
  | s :: l => if nmOk s = true then nmA l else false
theorem rds_mid (pre post : List ByteArray) (x : ByteArray) : rdOf ByteArray.empty (pre ++ x :: post) (pre.length : Int) = x := by simp [rdOf, List.getD]
theorem mids_lt (pre post : List ByteArray) (x : ByteArray) : (pre.length : Int) < ((pre ++ x :: post).length : Int) := by
  simp only [List.length_append, List.length_cons]
  omega
/-- The first place of a name, or -1. -/
def ixS (s : ByteArray) : Nat → List ByteArray → Int
  | _, [] => -1
  | n, t :: l => if s.toList = t.toList then (n : Int) else ixS s (n + 1) l
theorem Index_l0 (s : ByteArray) : ∀ (post pre : List ByteArray), (pre ++ post).length ≤ 140737488351232 →
    Ev (fun k => slices_Index_string.l0 k (pre ++ post) s ((pre ++ post).length : Int) (pre.length : Int)) (ixS s pre.length post)
  | [], pre, hl => by
    refine Ev.step (f := fun _ => some (-1)) (fun k => ?_) (Ev.now _)
    simp only [slices_Index_string.l0]
    rw [if_neg (by simp)]
  | x :: post, pre, hl => by
    have hlt := mids_lt pre post x
    have hn : pre.length ≤ 9223372036854775806 := by
      simp only [List.length_append, List.length_cons] at hl
      omega
    have hst : ∀ k, slices_Index_string.l0 (k + 1) (pre ++ x :: post) s ((pre ++ x :: post).length : Int) (pre.length : Int) = if s.toList = x.toList then some (pre.length : Int) else slices_Index_string.l0 k (pre ++ x :: post) s ((pre ++ x :: post).length : Int) ((pre ++ [x]).length : Int) := by
      intro k
      simp only [slices_Index_string.l0]
      rw [rds_mid, if_pos hlt, if_pos (by omega), if_pos hlt, succ_mid _ _ hn]
    unfold ixS
    by_cases c : s.toList = x.toList
    · rw [if_pos c]
      exact Ev.step (fun k => (hst k).trans (if_pos c)) (Ev.now _)
    · rw [if_neg c]
      have ih := Index_l0 s post (pre ++ [x]) (by simpa using hl)
      rw [← mid_snoc] at ih
      have e : (pre ++ [x]).length = pre.length + 1 := by simp
      rw [e] at ih
      refine Ev.step (fun k => (hst k).trans (if_neg c)) ?_
      rw [e]
      exact ih
theorem Index_ev (l : List ByteArray) (s : ByteArray) (hl : l.length ≤ 140737488351232) : Ev (fun k => slices_Index_string.f k l s) (ixS s 0 l) := Ev.congr (fun k => rfl) (Index_l0 s l [] (by simpa using hl))
theorem Contains_ev (l : List ByteArray) (s : ByteArray) (hl : l.length ≤ 140737488351232) : Ev (fun k => slices_Contains_string.f k l s) (decide (ixS s 0 l ≥ 0)) := Ev.bind (Index_ev l s hl) (Ev.now _)
def dupS : List ByteArray → List ByteArray → Bool
  | _, [] => false
  | pre, x :: post => if ixS x 0 pre ≥ 0 then true else dupS (pre ++ [x]) post
def nmsV (l : List ByteArray) : Int := if 16 < l.length then 6 else if l.length = 0 then 1 else if nmA l = true then (if dupS [] l = true then 9 else 0) else 4
theorem checkNames_l1 : ∀ (post pre : List ByteArray), (pre ++ post).length ≤ 140737488351232 →
    Ev (fun k => capture_checkNames.l1 k (pre ++ post) (pre ++ post) ((pre ++ post).length : Int) (pre.length : Int)) (if dupS pre post = true then 9 else 0)
  | [], pre, hl => by
    refine Ev.step (f := fun _ => some 0) (fun k => ?_) ?_
    · simp only [capture_checkNames.l1]
      rw [if_neg (by simp)]
    · rw [show (if dupS pre [] = true then (9 : Int) else 0) = 0 from rfl]
      exact Ev.now _
  | x :: post, pre, hl => by
    have hlt := mids_lt pre post x
    have hn : pre.length ≤ 9223372036854775806 := by
      simp only [List.length_append, List.length_cons] at hl
      omega
    have hp : pre.length ≤ 140737488351232 := by
      simp only [List.length_append, List.length_cons] at hl
      omega
    have hst : ∀ k, capture_checkNames.l1 (k + 1) (pre ++ x :: post) (pre ++ x :: post) ((pre ++ x :: post).length : Int) (pre.length : Int) = (slices_Contains_string.f k pre x).bind fun t111 => (if t111 = true then (some 9) else (capture_checkNames.l1 k (pre ++ x :: post) (pre ++ x :: post) ((pre ++ x :: post).length : Int) ((pre ++ [x]).length : Int))) := by
      intro k
      simp only [capture_checkNames.l1]
      rw [rds_mid, if_pos hlt, if_pos (by omega), if_pos hlt, if_pos (by omega), succ_mid _ _ hn, Int.toNat_natCast, List.take_left' rfl]
    refine Ev.step hst (Ev.bind (Contains_ev pre x hp) ?_)
    unfold dupS
    by_cases c : ixS x 0 pre ≥ 0
    · rw [if_pos c, decide_eq_true c]
      exact Ev.congr (fun k => if_pos rfl) (Ev.now _)
    · rw [if_neg c, decide_eq_false c]
      have ih := checkNames_l1 post (pre ++ [x]) (by simpa using hl)
      rw [← mid_snoc] at ih
      exact Ev.congr (fun k => if_neg (by decide)) ih
theorem checkNames_l0 : ∀ (post pre : List ByteArray) (R : Int), StrsOk post → (pre ++ post).length ≤ 140737488351232 → Ev (fun k => capture_checkNames.l1 k (pre ++ post) (pre ++ post) ((pre ++ post).length : Int) 0) R →
    Ev (fun k => capture_checkNames.l0 k (pre ++ post) (pre ++ post) ((pre ++ post).length : Int) (pre.length : Int)) (if nmA post = true then R else 4)
  | [], pre, R, hs, hl, hR => by
    refine Ev.step (fun k => ?_) (Ev.congr (fun k => rfl) hR)
    simp only [capture_checkNames.l0]
    rw [if_neg (by simp)]
  | x :: post, pre, R, hs, hl, hR => by
    have hlt := mids_lt pre post x
    have hn : pre.length ≤ 9223372036854775806 := by
      simp only [List.length_append, List.length_cons] at hl
      omega
    have hst : ∀ k, capture_checkNames.l0 (k + 1) (pre ++ x :: post) (pre ++ x :: post) ((pre ++ x :: post).length : Int) (pre.length : Int) = (lex_Name.f k x).bind fun t108 => (if t108 = true then (capture_checkNames.l0 k (pre ++ x :: post) (pre ++ x :: post) ((pre ++ x :: post).length : Int) ((pre ++ [x]).length : Int)) else (some 4)) := by
      intro k
      simp only [capture_checkNames.l0]
      rw [rds_mid, if_pos hlt, if_pos (by omega), if_pos hlt, succ_mid _ _ hn]
    refine Ev.step hst (Ev.bind (lex_Name_ev x (hs x (by simp))) ?_)
    unfold nmA
    by_cases c : nmOk x = true
    · rw [if_pos c, c]
      have ih := checkNames_l0 post (pre ++ [x]) R (fun y hy => hs y (by simp [hy])) (by simpa using hl) (by rw [← mid_snoc]; exact hR)
      rw [← mid_snoc] at ih
      exact Ev.congr (fun k => if_pos rfl) ih
    · rw [if_neg c, Bool.eq_false_iff.2 c]
      exact Ev.congr (fun k => if_neg (by decide)) (Ev.now _)
theorem checkNames_ev {l : List ByteArray} (hs : StrsOk l) (hl : l.length ≤ 140737488351232) (h16 : l.length ≤ 16) : Ev (fun k => capture_checkNames.f k l) (nmsV l) := by
  unfold nmsV
  rw [if_neg (by omega)]
  by_cases c : l.length = 0
  · rw [if_pos c]
    refine Ev.congr (fun k => ?_) (Ev.now _)
    unfold capture_checkNames.f
    rw [if_pos (by omega)]
  · rw [if_neg c]
    refine Ev.congr (fun k => ?_) (checkNames_l0 l [] _ hs (by simpa using hl) (checkNames_l1 l [] (by simpa using hl)))
    unfold capture_checkNames.f
    rw [if_neg (by omega)]
    rfl
theorem refnames_l2 (x : ByteArray) (post pre : List ByteArray) (R : Int) (hl : (pre ++ x :: post).length ≤ 140737488351232) (hR : Ev (fun k => signalbenchref09_names.l1 k (pre ++ x :: post) ((pre ++ [x]).length : Int)) R) :
    ∀ (p q : List ByteArray), pre = q ++ p → Ev (fun k => signalbenchref09_names.l2 k (pre ++ x :: post) (pre.length : Int) (q.length : Int)) (if ixS x q.length p ≥ 0 then 9 else R)
  | [], q, e => by
    have e1 : pre.length = q.length := by rw [e]; simp
    have hn : pre.length ≤ 9223372036854775806 := by
      simp only [List.length_append, List.length_cons] at hl
      omega
    rw [show (if ixS x q.length [] ≥ 0 then (9 : Int) else R) = R from if_neg (by show ¬ ((-1 : Int) ≥ 0); omega)]
    refine Ev.step (fun k => ?_) hR
    simp only [signalbenchref09_names.l2]
    rw [if_neg (by omega), succ_mid _ _ hn]
  | t :: p, q, e => by
    have e1 : pre.length = q.length + (p.length + 1) := by rw [e]; simp
    have hlt := mids_lt pre post x
    have e2 : rdOf ByteArray.empty (pre ++ x :: post) (q.length : Int) = t := by
      rw [e, List.append_assoc]
      exact rds_mid q (p ++ x :: post) t
    have hn : q.length ≤ 9223372036854775806 := by
      simp only [List.length_append, List.length_cons] at hl
      omega
    have hst : ∀ k, signalbenchref09_names.l2 (k + 1) (pre ++ x :: post) (pre.length : Int) (q.length : Int) = if x.toList = t.toList then some 9 else signalbenchref09_names.l2 k (pre ++ x :: post) (pre.length : Int) ((q ++ [t]).length : Int) := by
      intro k
      simp only [signalbenchref09_names.l2]
      rw [rds_mid, e2, if_pos (by omega), if_pos (by omega), if_pos hlt, if_pos (by omega), if_pos (by omega), succ_mid _ _ hn]
    unfold ixS
    by_cases c : x.toList = t.toList
    · rw [if_pos c, if_pos (by omega)]
      exact Ev.step (fun k => (hst k).trans (if_pos c)) (Ev.now _)
    · rw [if_neg c]
      have ih := refnames_l2 x post pre R hl hR p (q ++ [t]) (by rw [e, mid_snoc])
      have e3 : (q ++ [t]).length = q.length + 1 := by simp
      rw [e3] at ih
      refine Ev.step (fun k => (hst k).trans (if_neg c)) ?_
      rw [e3]
      exact ih
theorem refnames_l1 : ∀ (post pre : List ByteArray), (pre ++ post).length ≤ 140737488351232 →
    Ev (fun k => signalbenchref09_names.l1 k (pre ++ post) (pre.length : Int)) (if dupS pre post = true then 9 else 0)
  | [], pre, hl => by
    refine Ev.step (f := fun _ => some 0) (fun k => ?_) ?_
    · simp only [signalbenchref09_names.l1]
      rw [if_neg (by simp)]
    · rw [show (if dupS pre [] = true then (9 : Int) else 0) = 0 from rfl]
      exact Ev.now _
  | x :: post, pre, hl => by
    have hlt := mids_lt pre post x
    have ih := refnames_l1 post (pre ++ [x]) (by simpa using hl)
    rw [← mid_snoc] at ih
    have h2 := refnames_l2 x post pre _ hl ih pre [] rfl
    have e : (if dupS pre (x :: post) = true then (9 : Int) else 0) = if ixS x ([] : List ByteArray).length pre ≥ 0 then 9 else if dupS (pre ++ [x]) post = true then 9 else 0 := by
      show (if (if ixS x 0 pre ≥ 0 then true else dupS (pre ++ [x]) post) = true then (9 : Int) else 0) = if ixS x 0 pre ≥ 0 then 9 else _
      by_cases c : ixS x 0 pre ≥ 0
      · rw [if_pos c, if_pos c, if_pos rfl]
      · rw [if_neg c, if_neg c]
    rw [e]
    refine Ev.step (fun k => ?_) h2
    simp only [signalbenchref09_names.l1]
    rw [if_pos hlt]
    rfl
theorem refnames_l0 : ∀ (post pre : List ByteArray) (R : Int), StrsOk post → (pre ++ post).length ≤ 140737488351232 → Ev (fun k => signalbenchref09_names.l1 k (pre ++ post) 0) R →
    Ev (fun k => signalbenchref09_names.l0 k (pre ++ post) (pre.length : Int)) (if nmA post = true then R else 4)
  | [], pre, R, hs, hl, hR => by
    refine Ev.step (fun k => ?_) (Ev.congr (fun k => rfl) hR)
    simp only [signalbenchref09_names.l0]
    rw [if_neg (by simp)]
  | x :: post, pre, R, hs, hl, hR => by
    have hlt := mids_lt pre post x
    have hn : pre.length ≤ 9223372036854775806 := by
      simp only [List.length_append, List.length_cons] at hl
      omega
    have hst : ∀ k, signalbenchref09_names.l0 (k + 1) (pre ++ x :: post) (pre.length : Int) = (signalbenchref09_name.f k x).bind fun t108 => (if t108 = true then (signalbenchref09_names.l0 k (pre ++ x :: post) ((pre ++ [x]).length : Int)) else (some 4)) := by
      intro k
      simp only [signalbenchref09_names.l0]
      rw [rds_mid, if_pos hlt, if_pos (by omega), succ_mid _ _ hn]
    refine Ev.step hst (Ev.bind (ref_name_ev x (hs x (by simp))) ?_)
    unfold nmA
    by_cases c : nmOk x = true
    · rw [if_pos c, c]
      have ih := refnames_l0 post (pre ++ [x]) R (fun y hy => hs y (by simp [hy])) (by simpa using hl) (by rw [← mid_snoc]; exact hR)
      rw [← mid_snoc] at ih
      exact Ev.congr (fun k => if_pos rfl) ih
    · rw [if_neg c, Bool.eq_false_iff.2 c]
      exact Ev.congr (fun k => if_neg (by decide)) (Ev.now _)
theorem refnames_ev {l : List ByteArray} (hs : StrsOk l) (hl : l.length ≤ 140737488351232) : Ev (fun k => signalbenchref09_names.f k l) (nmsV l) := by
  unfold nmsV
  by_cases h : 16 < l.length
  · rw [if_pos h]
    refine Ev.congr (fun k => ?_) (Ev.now _)
    unfold signalbenchref09_names.f
    rw [if_pos (by omega)]
  · rw [if_neg h]
    by_cases c : l.length = 0
    · rw [if_pos c]
      refine Ev.congr (fun k => ?_) (Ev.now _)
      unfold signalbenchref09_names.f
      rw [if_neg (by omega), if_pos (by omega)]
    · rw [if_neg c]
      refine Ev.congr (fun k => ?_) (refnames_l0 l [] _ hs (by simpa using hl) (refnames_l1 l [] (by simpa using hl)))
      unfold signalbenchref09_names.f
      rw [if_neg (by omega), if_neg (by omega)]
      rfl
theorem nmsV_0 {l : List ByteArray} (h : nmsV l = 0) : 1 ≤ l.length ∧ l.length ≤ 16 := by
  unfold nmsV at h
  by_cases c : 16 < l.length
  · rw [if_pos c] at h
    omega
  · rw [if_neg c] at h
    by_cases c1 : l.length = 0
    · rw [if_pos c1] at h
      omega
    · omega
/-- Levels from 0 to m, and at least one tick each. -/
def RunsM (m : Int) (l : List S48) : Prop := ∀ x ∈ l, 0 ≤ x.f0 ∧ x.f0 ≤ m ∧ 1 ≤ x.f1
def rOk (m : Int) : Int → List S48 → Bool
  | left, [] => true
  | left, x :: l => if 0 ≤ x.f0 ∧ x.f0 ≤ m ∧ 1 ≤ x.f1 ∧ x.f1 ≤ left then rOk m (left - x.f1) l else false
theorem RunsM.cons {m : Int} {x : S48} {l : List S48} (h : RunsM m (x :: l)) : (0 ≤ x.f0 ∧ x.f0 ≤ m ∧ 1 ≤ x.f1) ∧ RunsM m l := ⟨h x (by simp), fun y hy => h y (by simp [hy])⟩
theorem smM_nonneg {m : Int} : ∀ {l : List S48}, RunsM m l → 0 ≤ sm l
  | [], _ => Int.le_refl _
  | x :: l, h => by
    have h1 := h.cons
    have h2 := smM_nonneg h1.2
    simp only [sm]
    omega
theorem rOk_iff {m : Int} : ∀ {l : List S48} {left : Int}, 0 ≤ left → (rOk m left l = true ↔ RunsM m l ∧ sm l ≤ left)
  | [], left, h => by simp [rOk, RunsM, sm, h]
  | x :: l, left, h => by
    unfold rOk
    by_cases c : 0 ≤ x.f0 ∧ x.f0 ≤ m ∧ 1 ≤ x.f1 ∧ x.f1 ≤ left
    · rw [if_pos c, rOk_iff (l := l) (by omega)]
      simp only [RunsM, sm, List.mem_cons, forall_eq_or_imp]
      constructor
      · rintro ⟨h1, h2⟩
        exact ⟨⟨⟨c.1, c.2.1, c.2.2.1⟩, h1⟩, by omega⟩
      · rintro ⟨⟨h1, h2⟩, h3⟩
        exact ⟨h2, by omega⟩
    · rw [if_neg c]
      simp only [Bool.false_eq_true, false_iff]
      rintro ⟨h1, h2⟩
      have h3 := h1.cons
      have h4 := smM_nonneg h3.2
      simp only [sm] at h2
      exact c ⟨h3.1.1, h3.1.2.1, h3.1.2.2, by omega⟩
def mk (l : List ByteArray) : Int := wrap64 ((shl .i64 1 (l.length : Int)) - 1)
def chkV (l : List ByteArray) (r : List S48) : Int := if 262144 < r.length then 6 else if nmsV l = 0 then (if rOk (mk l) 1099511627776 r = true then 0 else 2) else nmsV l
theorem chk_0 {l : List ByteArray} {r : List S48} (h : chkV l r = 0) : r.length ≤ 262144 ∧ nmsV l = 0 ∧ RunsM (mk l) r ∧ sm r ≤ 1099511627776 := by
  unfold chkV at h
  by_cases c : 262144 < r.length
  · rw [if_pos c] at h
    omega
  · rw [if_neg c] at h
    by_cases c1 : nmsV l = 0
    · rw [if_pos c1] at h
      by_cases c2 : rOk (mk l) 1099511627776 r = true
      · exact ⟨by omega, c1, (rOk_iff (by omega)).1 c2⟩
      · rw [if_neg c2] at h
        omega
    · rw [if_neg c1] at h
      exact absurd h c1
theorem Check_l0 (m : Int) : ∀ (post pre : List S48) (left : Int), 0 ≤ left → left ≤ 1099511627776 → (pre ++ post).length ≤ 140737488351232 →
    Ev (fun k => capture_Check.l0 k m left (pre ++ post) ((pre ++ post).length : Int) (pre.length : Int)) (if rOk m left post = true then 0 else 2)
  | [], pre, left, h0, h1, hl => by
    rw [show (if rOk m left [] = true then (0 : Int) else 2) = 0 from rfl]
    refine Ev.step (f := fun _ => some 0) (fun k => ?_) (Ev.now _)
    simp only [capture_Check.l0]
    rw [if_neg (by simp)]
  | x :: post, pre, left, h0, h1, hl => by
    have hlt := mid_lt pre post x
    have hn : pre.length ≤ 9223372036854775806 := by
      simp only [List.length_append, List.length_cons] at hl
      omega
    unfold rOk
    by_cases c : 0 ≤ x.f0 ∧ x.f0 ≤ m ∧ 1 ≤ x.f1 ∧ x.f1 ≤ left
    · have ih := Check_l0 m post (pre ++ [x]) (left - x.f1) (by omega) (by omega) (by simpa using hl)
      rw [← mid_snoc] at ih
      rw [if_pos c]
      refine Ev.step (fun k => ?_) ih
      simp only [capture_Check.l0]
      rw [rd_mid, if_pos hlt, if_pos (by omega), if_pos hlt, if_neg (by omega), if_neg (by omega), if_neg (by omega), if_neg (by omega), w64 (by omega) (by omega), succ_mid _ _ hn]
    · rw [if_neg c, show (if false = true then (0 : Int) else 2) = 2 from rfl]
      refine Ev.step (f := fun _ => some 2) (fun k => ?_) (Ev.now _)
      simp only [capture_Check.l0]
      rw [rd_mid, if_pos hlt, if_pos (by omega), if_pos hlt]
      by_cases c1 : x.f0 < 0
      · rw [if_pos c1]
      · rw [if_neg c1]
        by_cases c2 : x.f0 > m
        · rw [if_pos c2]
        · rw [if_neg c2]
          by_cases c3 : x.f1 < 1
          · rw [if_pos c3]
          · rw [if_neg c3, if_pos (by omega)]
theorem Check_ev {l : List ByteArray} {r : List S48} (hs : StrsOk l) (hl : l.length ≤ 140737488351232) (hr : r.length ≤ 140737488351232) : Ev (fun k => capture_Check.f k l r) (chkV l r) := by
  have hj : Ev (fun k => capture_Check.j0 k true l r) 6 := Ev.step (f := fun _ => some 6) (fun k => by simp only [capture_Check.j0]; rfl) (Ev.now _)
  by_cases c : 16 < l.length
  · have e : chkV l r = 6 := by
      have e1 : nmsV l = 6 := by
        unfold nmsV
        rw [if_pos c]
      unfold chkV
      rw [e1]
      by_cases c1 : 262144 < r.length
      · rw [if_pos c1]
      · rw [if_neg c1]
        rfl
    rw [e]
    refine Ev.congr (fun k => ?_) hj
    unfold capture_Check.f
    rw [if_pos (by omega)]
  · have e : ∀ k, capture_Check.f k l r = capture_Check.j0 k (decide ((r.length : Int) > 262144)) l r := by
      intro k
      unfold capture_Check.f
      rw [if_neg (by omega)]
    refine Ev.congr e ?_
    unfold chkV
    by_cases c1 : 262144 < r.length
    · rw [if_pos c1, decide_eq_true (by omega)]
      exact hj
    · rw [if_neg c1, decide_eq_false (by omega)]
      refine Ev.step (f := fun k => (capture_checkNames.f k l).bind fun t113 => (if t113 = 0 then (capture_Check.l0 k (mk l) 1099511627776 r (r.length : Int) 0) else (some t113))) (fun k => ?_) (Ev.bind (checkNames_ev hs hl (by omega)) ?_)
      · simp only [capture_Check.j0]
        rw [if_neg (by decide)]
        rfl
      · by_cases c2 : nmsV l = 0
        · rw [if_pos c2]
          exact Ev.congr (fun k => if_pos c2) (Check_l0 (mk l) r [] 1099511627776 (by omega) (by omega) (by simpa using hr))
        · rw [if_neg c2]
          exact Ev.congr (fun k => if_neg c2) (Ev.now _)
theorem refruns_l0 (m : Int) : ∀ (post pre : List S48) (left : Int), 0 ≤ left → left ≤ 1099511627776 → (pre ++ post).length ≤ 140737488351232 →
    Ev (fun k => signalbenchref09_runs.l0 k (pre ++ post) m left (pre.length : Int)) (rOk m left post)
  | [], pre, left, h0, h1, hl => by
    refine Ev.step (f := fun _ => some true) (fun k => ?_) (Ev.now _)
    simp only [signalbenchref09_runs.l0]
    rw [if_neg (by simp)]
  | x :: post, pre, left, h0, h1, hl => by
    have hlt := mid_lt pre post x
    have hn : pre.length ≤ 9223372036854775806 := by
      simp only [List.length_append, List.length_cons] at hl
      omega
    unfold rOk
    by_cases c : 0 ≤ x.f0 ∧ x.f0 ≤ m ∧ 1 ≤ x.f1 ∧ x.f1 ≤ left
    · have ih := refruns_l0 m post (pre ++ [x]) (left - x.f1) (by omega) (by omega) (by simpa using hl)
      rw [← mid_snoc] at ih
      rw [if_pos c]
      refine Ev.step (fun k => ?_) ih
      simp only [signalbenchref09_runs.l0]
      rw [rd_mid, if_pos hlt, if_pos (by omega), if_neg (by omega), if_neg (by omega), if_neg (by omega), if_neg (by omega), w64 (by omega) (by omega), succ_mid _ _ hn]
    · rw [if_neg c]
      refine Ev.step (f := fun _ => some false) (fun k => ?_) (Ev.now _)
      simp only [signalbenchref09_runs.l0]
      rw [rd_mid, if_pos hlt, if_pos (by omega)]
      by_cases c1 : x.f0 < 0
      · rw [if_pos c1]
      · rw [if_neg c1]
        by_cases c2 : x.f0 > m
        · rw [if_pos c2]
        · rw [if_neg c2]
          by_cases c3 : x.f1 < 1
          · rw [if_pos c3]
          · rw [if_neg c3, if_pos (by omega)]
theorem refruns_ev (m : Int) {r : List S48} (hr : r.length ≤ 140737488351232) : Ev (fun k => signalbenchref09_runs.f k r m) (rOk m 1099511627776 r) :=
  Ev.congr (fun k => rfl) (refruns_l0 m r [] 1099511627776 (by omega) (by omega) (by simpa using hr))
theorem refCheck_ev {l : List ByteArray} {r : List S48} (hs : StrsOk l) (hl : l.length ≤ 140737488351232) (hr : r.length ≤ 140737488351232) : Ev (fun k => signalbenchref09_Check.f k l r) (chkV l r) := by
  unfold chkV
  by_cases c1 : 262144 < r.length
  · rw [if_pos c1]
    refine Ev.congr (fun k => ?_) (Ev.now _)
    unfold signalbenchref09_Check.f
    rw [if_pos (by omega)]
  · rw [if_neg c1]
    refine Ev.congr (f := fun k => (signalbenchref09_names.f k l).bind fun t216 => (if t216 = 0 then ((signalbenchref09_runs.f k r (mk l)).bind fun t217 => (if t217 = true then (some 0) else (some 2))) else (some t216))) (fun k => ?_) (Ev.bind (refnames_ev hs hl) ?_)
    · unfold signalbenchref09_Check.f
      rw [if_neg (by omega)]
      rfl
    · by_cases c2 : nmsV l = 0
      · rw [if_pos c2]
        refine Ev.congr (fun k => if_pos c2) (Ev.bind (refruns_ev (mk l) hr) ?_)
        by_cases c3 : rOk (mk l) 1099511627776 r = true
        · simp only [if_pos c3]
          exact Ev.now _
        · simp only [if_neg c3]
          exact Ev.now _
      · rw [if_neg c2]
        exact Ev.congr (fun k => if_neg c2) (Ev.now _)
theorem refGood_ev {l : List ByteArray} {r : List S48} (hs : StrsOk l) (hl : l.length ≤ 140737488351232) (hr : r.length ≤ 140737488351232) : Ev (fun k => signalbenchref09_Good.f k l r) (chkV l r == 0) :=
  Ev.bind (refCheck_ev hs hl hr) (Ev.now _)
theorem long_l0 {m : Int} : ∀ (post pre : List S48) (s : Int), 0 ≤ s → s + sm post ≤ 4611686018427387904 → RunsM m post → (pre ++ post).length ≤ 140737488351232 →
    Ev (fun k => capture_long.l0 k s (pre ++ post) ((pre ++ post).length : Int) (pre.length : Int)) (s + sm post)
  | [], pre, s, h0, h1, hw, hl => by
    refine Ev.step (f := fun _ => some s) (fun k => ?_) ?_
    · simp only [capture_long.l0]
      rw [if_neg (by simp)]
    · simp only [sm, Int.add_zero]
      exact Ev.now _
  | x :: post, pre, s, h0, h1, hw, hl => by
    have hx := hw.cons
    have hs := smM_nonneg hx.2
    simp only [sm] at h1
    have hlt := mid_lt pre post x
    have hn : pre.length ≤ 9223372036854775806 := by
      simp only [List.length_append, List.length_cons] at hl
      omega
    have ih := long_l0 post (pre ++ [x]) (s + x.f1) (by omega) (by omega) hx.2 (by simpa using hl)
    rw [← mid_snoc] at ih
    have e1 : s + sm (x :: post) = s + x.f1 + sm post := by
      simp only [sm]
      omega
    rw [e1]
    refine Ev.step (fun k => ?_) ih
    simp only [capture_long.l0]
    rw [rd_mid, if_pos hlt, if_pos (by omega), if_pos hlt, w64 (x := s + x.f1) (by omega) (by omega), succ_mid _ _ hn]
theorem long_ev {m : Int} {r : List S48} (h : RunsM m r) (hs : sm r ≤ 1099511627776) (hr : r.length ≤ 140737488351232) : Ev (fun k => capture_long.f k r) (sm r) := by
  have h := long_l0 r [] 0 (by omega) (by omega) h (by simpa using hr)
  rw [Int.zero_add] at h
  exact Ev.congr (fun k => rfl) h
theorem total_l0 {m : Int} : ∀ (post pre : List S48) (s : Int), 0 ≤ s → s + sm post ≤ 4611686018427387904 → RunsM m post → (pre ++ post).length ≤ 140737488351232 →
    Ev (fun k => signalbenchref09_total.l0 k (pre ++ post) s (pre.length : Int)) (s + sm post)
  | [], pre, s, h0, h1, hw, hl => by
    refine Ev.step (f := fun _ => some s) (fun k => ?_) ?_
    · simp only [signalbenchref09_total.l0]
      rw [if_neg (by simp)]
    · simp only [sm, Int.add_zero]
      exact Ev.now _
  | x :: post, pre, s, h0, h1, hw, hl => by
    have hx := hw.cons
    have hs := smM_nonneg hx.2
    simp only [sm] at h1
    have hlt := mid_lt pre post x
    have hn : pre.length ≤ 9223372036854775806 := by
      simp only [List.length_append, List.length_cons] at hl
      omega
    have ih := total_l0 post (pre ++ [x]) (s + x.f1) (by omega) (by omega) hx.2 (by simpa using hl)
    rw [← mid_snoc] at ih
    have e1 : s + sm (x :: post) = s + x.f1 + sm post := by
      simp only [sm]
      omega
    rw [e1]
    refine Ev.step (fun k => ?_) ih
    simp only [signalbenchref09_total.l0]
    rw [rd_mid, if_pos hlt, if_pos (by omega), w64 (x := s + x.f1) (by omega) (by omega), succ_mid _ _ hn]
theorem total_ev {m : Int} {r : List S48} (h : RunsM m r) (hs : sm r ≤ 1099511627776) (hr : r.length ≤ 140737488351232) : Ev (fun k => signalbenchref09_total.f k r) (sm r) := by
  have h := total_l0 r [] 0 (by omega) (by omega) h (by simpa using hr)
  rw [Int.zero_add] at h
  exact Ev.congr (fun k => rfl) h
def longC (l : List ByteArray) (r : List S48) : Int := if chkV l r = 0 then sm r else 0
theorem Long_ev {l : List ByteArray} {r : List S48} (hs : StrsOk l) (hl : l.length ≤ 140737488351232) (hr : r.length ≤ 140737488351232) : Ev (fun k => capture_Long.f k l r) (longC l r) := by
  unfold longC
  refine Ev.bind (Check_ev hs hl hr) ?_
  by_cases c : chkV l r = 0
  · have h := chk_0 c
    rw [if_pos c]
    exact Ev.congr (fun k => if_pos c) (Ev.bind (long_ev h.2.2.1 h.2.2.2 hr) (Ev.now _))
  · rw [if_neg c]
    exact Ev.congr (fun k => if_neg c) (Ev.now _)
theorem refLong_ev {l : List ByteArray} {r : List S48} (hs : StrsOk l) (hl : l.length ≤ 140737488351232) (hr : r.length ≤ 140737488351232) : Ev (fun k => signalbenchref09_Long.f k l r) (longC l r) := by
  unfold longC
  refine Ev.bind (refGood_ev hs hl hr) ?_
  by_cases c : chkV l r = 0
  · have h := chk_0 c
    rw [if_pos c]
    exact Ev.congr (fun k => if_pos (beq_iff_eq.2 c)) (Ev.bind (total_ev h.2.2.1 h.2.2.2 hr) (Ev.now _))
  · rw [if_neg c]
    exact Ev.congr (fun k => if_neg (fun h => c (beq_iff_eq.1 h))) (Ev.now _)
theorem atS_out {m : Int} : ∀ {l : List S48} {t : Int}, RunsM m l → sm l ≤ t → atS l t = (-1, false)
  | [], t, h, ht => rfl
  | x :: l, t, h, ht => by
    have hx := h.cons
    have h2 := smM_nonneg hx.2
    simp only [sm] at ht
    unfold atS
    rw [if_neg (by omega)]
    exact atS_out hx.2 (by omega)
/-- A run put behind runs. -/
def putR (o : List S48) (v t : Int) : List S48 :=
  match o.getLast? with
  | some y => if y.f0 = v then o.dropLast ++ [(⟨y.f0, y.f1 + t⟩ : S48)] else o ++ [(⟨v, t⟩ : S48)]
  | none => [(⟨v, t⟩ : S48)]
theorem putR_nil (v t : Int) : putR [] v t = [⟨v, t⟩] := rfl
theorem putR_same (o : List S48) (y : S48) (t : Int) : putR (o ++ [y]) y.f0 t = o ++ [⟨y.f0, y.f1 + t⟩] := by
  simp [putR]
theorem putR_new (o : List S48) (y : S48) {v t : Int} (h : ¬ y.f0 = v) : putR (o ++ [y]) v t = o ++ [y] ++ [⟨v, t⟩] := by
  simp [putR, h]
theorem snoc_cases {α : Type} (o : List α) : o = [] ∨ ∃ q y, o = q ++ [y] := by
  rcases List.eq_nil_or_concat o with h | ⟨q, y, h⟩
  · exact .inl h
  · exact .inr ⟨q, y, by simpa using h⟩
theorem refput_eq {o : List S48} {v t : Int} (ho : o.length < 8796093022208) (h0 : 1 ≤ t) (hs : ∀ y ∈ o, 0 ≤ y.f1 ∧ y.f1 + t ≤ 9223372036854775807) : signalbenchref09_put.f o v t = some (putR o v t) := by
  rcases snoc_cases o with rfl | ⟨q, y, rfl⟩
  · unfold signalbenchref09_put.f
    rw [if_neg (by omega), if_neg (by simp), if_pos (by simp)]
    rfl
  · have hy := hs y (by simp)
    have hq : q.length ≤ 9223372036854775806 := by
      simp only [List.length_append, List.length_cons, List.length_nil] at ho
      omega
    have hlt : (q.length : Int) < ((q ++ [y]).length : Int) := mid_lt q [] y
    unfold signalbenchref09_put.f
    rw [last_at q y hq, rd_last, if_neg (by omega), if_pos (by omega), if_pos (by omega), if_pos hlt]
    by_cases c : y.f0 = v
    · rw [if_pos c, set_last, w64 (by omega) (by omega), ← c, putR_same]
    · rw [if_neg c, if_pos ho, putR_new q y c]
theorem putR_sm (o : List S48) (v t : Int) : sm (putR o v t) = sm o + t := by
  rcases snoc_cases o with rfl | ⟨q, y, rfl⟩
  · simp [putR_nil, sm]
  · by_cases c : y.f0 = v
    · rw [← c, putR_same]
      simp only [sm_append, sm]
      omega
    · rw [putR_new q y c]
      simp only [sm_append, sm]
      omega
theorem putR_len (o : List S48) (v t : Int) : (putR o v t).length ≤ o.length + 1 := by
  rcases snoc_cases o with rfl | ⟨q, y, rfl⟩
  · simp [putR_nil]
  · by_cases c : y.f0 = v
    · rw [← c, putR_same]
      simp
    · rw [putR_new q y c]
      simp
theorem putR_ok {m : Int} {o : List S48} {v t : Int} (h : RunsM m o) (hv : 0 ≤ v ∧ v ≤ m) (ht : 1 ≤ t) : RunsM m (putR o v t) := by
  rcases snoc_cases o with rfl | ⟨q, y, rfl⟩
  · intro x hx
    rw [putR_nil, List.mem_singleton] at hx
    subst hx
    exact ⟨hv.1, hv.2, ht⟩
  · have hy := h y (by simp)
    by_cases c : y.f0 = v
    · rw [← c, putR_same]
      intro x hx
      rcases List.mem_append.1 hx with hx | hx
      · exact h x (by simp [hx])
      · rw [List.mem_singleton] at hx
        subst hx
        exact ⟨hy.1, hy.2.1, by show 1 ≤ y.f1 + t; omega⟩
    · rw [putR_new q y c]
      intro x hx
      rcases List.mem_append.1 hx with hx | hx
      · exact h x hx
      · rw [List.mem_singleton] at hx
        subst hx
        exact ⟨hv.1, hv.2, ht⟩
def cln : List S48 → List S48 → List S48
  | o, [] => o
  | o, x :: l => cln (putR o x.f0 x.f1) l
theorem sm_nil : sm ([] : List S48) = 0 := rfl
theorem sm_cons (x : S48) (l : List S48) : sm (x :: l) = x.f1 + sm l := rfl
theorem atS_cons (x : S48) (l : List S48) (t : Int) : atS (x :: l) t = if t < x.f1 then (x.f0, true) else atS l (t - x.f1) := rfl
theorem atS_append {m : Int} : ∀ {a : List S48} (b : List S48) (t : Int), RunsM m a → 0 ≤ t → atS (a ++ b) t = if t < sm a then atS a t else atS b (t - sm a)
  | [], b, t, h, ht => by
    rw [sm_nil, List.nil_append, Int.sub_zero, if_neg (by omega)]
  | x :: a, b, t, h, ht => by
    have hx := h.cons
    have h2 := smM_nonneg hx.2
    rw [List.cons_append, atS_cons, atS_cons, sm_cons]
    by_cases c : t < x.f1
    · rw [if_pos c, if_pos (by omega), if_pos c]
    · rw [if_neg c, if_neg c, atS_append b (t - x.f1) hx.2 (by omega)]
      by_cases c1 : t - x.f1 < sm a
      · rw [if_pos c1, if_pos (by omega)]
      · rw [if_neg c1, if_neg (by omega), show t - x.f1 - sm a = t - (x.f1 + sm a) by omega]
theorem atS_putR {m : Int} {o : List S48} {v n t : Int} (h : RunsM m o) (ht : 0 ≤ t) (hn : 0 ≤ n) : atS (putR o v n) t = if t < sm o then atS o t else if t - sm o < n then (v, true) else (-1, false) := by
  have e : ∀ s, atS [(⟨v, n⟩ : S48)] s = if s < n then (v, true) else (-1, false) := fun s => rfl
  rcases snoc_cases o with rfl | ⟨q, y, rfl⟩
  · rw [putR_nil, e, sm_nil, Int.sub_zero, if_neg (show ¬ t < 0 by omega)]
  · have hq : RunsM m q := fun x hx => h x (by simp [hx])
    have hy := h y (by simp)
    have hs := smM_nonneg hq
    by_cases c : y.f0 = v
    · rw [← c, putR_same, atS_append _ _ hq ht, atS_append _ _ hq ht]
      simp only [sm_append, sm, Int.add_zero]
      by_cases c1 : t < sm q
      · rw [if_pos c1, if_pos (by omega), if_pos c1]
      · rw [if_neg c1]
        by_cases c2 : t < sm q + y.f1
        · rw [if_pos c2, if_neg c1]
          simp only [atS]
          rw [if_pos (by omega), if_pos (by omega)]
        · rw [if_neg c2]
          simp only [atS]
          by_cases c3 : t - sm q < y.f1 + n
          · rw [if_pos c3, if_pos (by omega)]
          · rw [if_neg c3, if_neg (by omega)]
    · rw [putR_new q y c, atS_append _ _ h ht]
      by_cases c1 : t < sm (q ++ [y])
      · rw [if_pos c1, if_pos c1]
      · rw [if_neg c1, if_neg c1, e]
theorem mx_le (a b : Int) : a ≤ mx a b ∧ b ≤ mx a b ∧ (mx a b = a ∨ mx a b = b) := by
  unfold mx
  by_cases c : a < b
  · rw [if_pos c]
    omega
  · rw [if_neg c]
    omega
theorem mn_le (a b : Int) : mn a b ≤ a ∧ mn a b ≤ b ∧ (mn a b = a ∨ mn a b = b) := by
  unfold mn
  by_cases c : b < a
  · rw [if_pos c]
    omega
  · rw [if_neg c]
    omega
def Tk (l : List S48) : Prop := ∀ y ∈ l, 1 ≤ y.f1
theorem Tk.cons {x : S48} {l : List S48} (h : Tk (x :: l)) : 1 ≤ x.f1 ∧ Tk l := ⟨h x (by simp), fun y hy => h y (by simp [hy])⟩
theorem smT_nonneg : ∀ {l : List S48}, Tk l → 0 ≤ sm l
  | [], _ => Int.le_refl _
  | x :: l, h => by
    have h1 := h.cons
    have h2 := smT_nonneg h1.2
    simp only [sm]
    omega
theorem leT_sm : ∀ {l : List S48}, Tk l → ∀ y ∈ l, 0 ≤ y.f1 ∧ y.f1 ≤ sm l
  | [], h, y, hy => by simp at hy
  | x :: l, h, y, hy => by
    have hx := h.cons
    have h0 := smT_nonneg hx.2
    simp only [sm]
    rcases List.mem_cons.1 hy with rfl | hy
    · omega
    · have := leT_sm hx.2 y hy
      omega
theorem putR_tk {o : List S48} {v t : Int} (h : Tk o) (ht : 1 ≤ t) : Tk (putR o v t) := by
  rcases snoc_cases o with rfl | ⟨q, y, rfl⟩
  · intro x hx
    rw [putR_nil, List.mem_singleton] at hx
    subst hx
    exact ht
  · have hy := h y (by simp)
    by_cases c : y.f0 = v
    · rw [← c, putR_same]
      intro x hx
      rcases List.mem_append.1 hx with hx | hx
      · exact h x (by simp [hx])
      · rw [List.mem_singleton] at hx
        subst hx
        show 1 ≤ y.f1 + t
        omega
    · rw [putR_new q y c]
      intro x hx
      rcases List.mem_append.1 hx with hx | hx
      · exact h x hx
      · rw [List.mem_singleton] at hx
        subst hx
        exact ht
theorem lives12_ev : Ev (fun k => signalbenchlaw12_lives.f k) true := Ev.of (k := 60) (fun k => signalbenchlaw12_lives.mono k) (by decide +kernel)
def fewV12 (l : List ByteArray) (r : List S48) : Bool := decide (l.length ≤ 60 ∧ r.length ≤ 500)
theorem few12_eq (l : List ByteArray) (r : List S48) : signalbenchlaw12_few.f l r = some (fewV12 l r) := by
  unfold signalbenchlaw12_few.f fewV12
  by_cases c : l.length ≤ 60
  · rw [if_pos (by omega)]
    by_cases c1 : r.length ≤ 500
    · rw [decide_eq_true (by omega), decide_eq_true ⟨c, c1⟩]
    · rw [decide_eq_false (by omega), decide_eq_false (fun h => c1 h.2)]
  · rw [if_neg (by omega), decide_eq_false (fun h => c h.1)]
theorem equal12_l1 (l : List ByteArray) : ∀ (post pre : List S48), (pre ++ post).length ≤ 140737488351232 → Ev (fun k => signalbenchlaw12_equal.l1 k (pre.length : Int) l (pre ++ post) l (pre ++ post)) true
  | [], pre, hl => by
    refine Ev.step (f := fun _ => some true) (fun k => ?_) (Ev.now _)
    simp only [signalbenchlaw12_equal.l1]
    rw [if_neg (by simp)]
  | x :: post, pre, hl => by
    have hlt := mid_lt pre post x
    have hn : pre.length ≤ 9223372036854775806 := by
      simp only [List.length_append, List.length_cons] at hl
      omega
    have ih := equal12_l1 l post (pre ++ [x]) (by simpa using hl)
    rw [← mid_snoc] at ih
    refine Ev.step (fun k => ?_) ih
    simp only [signalbenchlaw12_equal.l1]
    rw [rd_mid, if_pos hlt, if_pos (by omega), if_pos hlt, if_neg (by simp), succ_mid _ _ hn]
theorem equal12_l0 (r : List S48) (hr : r.length ≤ 140737488351232) : ∀ (post pre : List ByteArray), (pre ++ post).length ≤ 140737488351232 → Ev (fun k => signalbenchlaw12_equal.l0 k (pre.length : Int) (pre ++ post) r (pre ++ post) r) true
  | [], pre, hl => by
    refine Ev.step (fun k => ?_) (equal12_l1 (pre ++ []) r [] (by simpa using hr))
    simp only [signalbenchlaw12_equal.l0]
    rw [if_neg (by simp)]
    rfl
  | x :: post, pre, hl => by
    have hlt := mids_lt pre post x
    have hn : pre.length ≤ 9223372036854775806 := by
      simp only [List.length_append, List.length_cons] at hl
      omega
    have ih := equal12_l0 r hr post (pre ++ [x]) (by simpa using hl)
    rw [← mid_snoc] at ih
    refine Ev.step (fun k => ?_) ih
    simp only [signalbenchlaw12_equal.l0]
    rw [if_pos hlt, if_pos (by omega), if_pos hlt, if_pos trivial, succ_mid _ _ hn]
theorem equal12_ev (l : List ByteArray) (r : List S48) (hl : l.length ≤ 140737488351232) (hr : r.length ≤ 140737488351232) : Ev (fun k => signalbenchlaw12_equal.f k l r l r) true := by
  refine Ev.congr (f := fun k => signalbenchlaw12_equal.j0 k ((r.length : Int) != (r.length : Int)) l r l r) (fun k => ?_) ?_
  · unfold signalbenchlaw12_equal.f
    rw [if_pos rfl]
  · rw [bne_self_eq_false]
    refine Ev.step (fun k => ?_) (equal12_l0 r hr l [] (by simpa using hl))
    simp only [signalbenchlaw12_equal.j0]
    rw [if_neg (by decide)]
    rfl
theorem rjoin_eq {o : List S48} {v t : Int} (ho : o.length < 8796093022208) (h0 : 0 ≤ t) (hs : ∀ y ∈ o, 0 ≤ y.f1 ∧ y.f1 + t ≤ 9223372036854775807) : remap_join.f o v t = some (putR o v t) := by
  rcases snoc_cases o with rfl | ⟨q, y, rfl⟩
  · unfold remap_join.f
    rw [if_neg (by simp), if_pos (by simp)]
    rfl
  · have hy := hs y (by simp)
    have hq : q.length ≤ 9223372036854775806 := by
      simp only [List.length_append, List.length_cons, List.length_nil] at ho
      omega
    have hlt : (q.length : Int) < ((q ++ [y]).length : Int) := mid_lt q [] y
    unfold remap_join.f
    rw [last_at q y hq, rd_last, if_pos (by omega), if_pos (by omega), if_pos hlt]
    by_cases c : y.f0 = v
    · rw [if_pos c, set_last, w64 (by omega) (by omega), ← c, putR_same]
    · rw [if_neg c, if_pos ho, putR_new q y c]
theorem cln_jnc : ∀ (l q : List S48) (y : S48), cln (q ++ [y]) l = q ++ jnc y l
  | [], q, y => rfl
  | x :: l, q, y => by
    unfold cln jnc
    by_cases c : y.f0 = x.f0
    · rw [← c, putR_same, cln_jnc l q, if_pos rfl]
    · rw [putR_new q y c, cln_jnc l (q ++ [y]), if_neg c, List.append_assoc]
      rfl
theorem cln_jn (l : List S48) : cln [] l = jn l := by
  cases l with
  | nil => rfl
  | cons x l =>
    show cln (putR [] x.f0 x.f1) l = _
    rw [putR_nil]
    exact cln_jnc l [] _
theorem cln_sm : ∀ (l o : List S48), sm (cln o l) = sm o + sm l
  | [], o => by simp [cln, sm]
  | x :: l, o => by
    show sm (cln (putR o x.f0 x.f1) l) = _
    rw [cln_sm l, putR_sm, sm]
    omega
theorem cln_ok {m : Int} : ∀ (l : List S48) {o : List S48}, RunsM m o → RunsM m l → RunsM m (cln o l)
  | [], o, h, _ => h
  | x :: l, o, h, h1 => cln_ok l (putR_ok h ⟨h1.cons.1.1, h1.cons.1.2.1⟩ h1.cons.1.2.2) h1.cons.2
theorem nilM {m : Int} : RunsM m ([] : List S48) := fun x hx => by simp at hx
/-- The reference's Clean of runs of any levels. -/
theorem refCleanT_l0 : ∀ (post pre o : List S48), Tk o → Tk post → sm o + sm post ≤ 1099511627776 → (pre ++ post).length ≤ 262144 → o.length + post.length ≤ 262144 →
    Ev (fun k => signalbenchref09_Clean.l0 k (pre ++ post) o (pre.length : Int)) (cln o post)
  | [], pre, o, h0, h1, hs, hl, ho => by
    refine Ev.step (f := fun _ => some o) (fun k => ?_) (Ev.now _)
    simp only [signalbenchref09_Clean.l0]
    rw [if_neg (by simp)]
  | x :: post, pre, o, h0, h1, hs, hl, ho => by
    have hx := h1.cons
    have h2 := smT_nonneg hx.2
    have h3 := smT_nonneg h0
    simp only [sm] at hs
    simp only [List.length_cons] at ho
    have hlt := mid_lt pre post x
    have hn : pre.length ≤ 9223372036854775806 := by
      simp only [List.length_append, List.length_cons] at hl
      omega
    have hj : signalbenchref09_put.f o x.f0 x.f1 = some (putR o x.f0 x.f1) := refput_eq (by omega) hx.1 (fun y hy => by have := leT_sm h0 y hy; omega)
    have ih := refCleanT_l0 post (pre ++ [x]) (putR o x.f0 x.f1) (putR_tk h0 hx.1) hx.2 (by rw [putR_sm]; omega) (by simpa using hl) (by have := putR_len o x.f0 x.f1; omega)
    rw [← mid_snoc] at ih
    refine Ev.step (fun k => ?_) ih
    simp only [signalbenchref09_Clean.l0]
    rw [rd_mid, if_pos hlt, if_pos (by omega), hj, Option.bind_some, succ_mid _ _ hn]
theorem refCleanT_ev {r : List S48} (h : Tk r) (hs : sm r ≤ 1099511627776) (hr : r.length ≤ 262144) : Ev (fun k => signalbenchref09_Clean.f k r) (cln [] r) :=
  Ev.congr (fun k => rfl) (refCleanT_l0 r [] [] (fun x hx => by simp at hx) h (by simp only [sm]; omega) (by simpa using hr) (by simpa using hr))
theorem data_toList (a : ByteArray) : a.toList = a.data.toList := by simp [ByteArray.toList_eq]
def tw (l : List ByteArray) : Bool := l.any (fun s => decide (1 < remap_twice.n s.data.toList l))
theorem twice_eq {l : List ByteArray} (hs : StrsOk l) (hl : l.length ≤ 140737488351232) : remap_twice.f l = some (tw l) := by
  unfold remap_twice.f
  rw [if_pos (List.all_eq_true.2 (fun s h => decide_eq_true (hs s h))), if_pos hl]
  rfl
theorem ixS_mem (s : ByteArray) : ∀ (l : List ByteArray) (n : Nat), ixS s n l ≥ 0 ↔ ∃ y ∈ l, s.toList = y.toList
  | [], n => by
    simp only [ixS, List.not_mem_nil, false_and, exists_false, iff_false]
    omega
  | t :: l, n => by
    unfold ixS
    by_cases c : s.toList = t.toList
    · rw [if_pos c]
      exact ⟨fun _ => ⟨t, by simp, c⟩, fun _ => by omega⟩
    · rw [if_neg c, ixS_mem s l (n + 1)]
      constructor
      · rintro ⟨y, hy, e⟩
        exact ⟨y, by simp [hy], e⟩
      · rintro ⟨y, hy, e⟩
        rcases List.mem_cons.1 hy with rfl | hy
        · exact absurd e c
        · exact ⟨y, hy, e⟩
theorem tw_snoc {pre : List ByteArray} {x : ByteArray} (h : tw pre = false) : tw (pre ++ [x]) = decide (ixS x 0 pre ≥ 0) := by
  have e1 : ∀ s, remap_twice.n s (pre ++ [x]) = remap_twice.n s pre + (if x.data.toList = s then 1 else 0) := by
    intro s
    rw [remap_twice.n_app]
    simp [remap_twice.n]
  by_cases c : ixS x 0 pre ≥ 0
  · rw [decide_eq_true c]
    obtain ⟨y, hy, e⟩ := (ixS_mem x pre 0).1 c
    have h1 := remap_twice.mem_n hy
    rw [← data_toList y, ← e, data_toList] at h1
    unfold tw
    rw [List.any_eq_true]
    refine ⟨x, by simp, decide_eq_true ?_⟩
    rw [e1, if_pos rfl]
    omega
  · rw [decide_eq_false c]
    have hno : ∀ y ∈ pre, ¬ x.data.toList = y.data.toList := by
      intro y hy e
      exact c ((ixS_mem x pre 0).2 ⟨y, hy, by rw [data_toList, data_toList, e]⟩)
    unfold tw at h ⊢
    rw [List.any_eq_false] at h ⊢
    intro s hs
    rw [e1]
    simp only [decide_eq_true_eq]
    rcases List.mem_append.1 hs with hs | hs
    · have h1 := h s hs
      simp only [decide_eq_true_eq] at h1
      rw [if_neg (hno s hs)]
      omega
    · rw [List.mem_singleton] at hs
      subst hs
      have h0 : remap_twice.n s.data.toList pre = 0 := by
        apply Classical.byContradiction
        intro hne
        obtain ⟨y, hy, e⟩ := remap_twice.n_mem (s := s.data.toList) (l := pre) (by omega)
        exact hno y hy e.symm
      rw [h0]
      split <;> omega
theorem place12_l0 (s : ByteArray) : ∀ (post pre : List ByteArray), (pre ++ post).length ≤ 140737488351232 →
    Ev (fun k => signalbenchref12_place.l0 k (pre ++ post) s (pre.length : Int)) (ixS s pre.length post)
  | [], pre, hl => by
    refine Ev.step (f := fun _ => some (-1)) (fun k => ?_) (Ev.now _)
    simp only [signalbenchref12_place.l0]
    rw [if_neg (by simp)]
  | x :: post, pre, hl => by
    have hlt := mids_lt pre post x
    have hn : pre.length ≤ 9223372036854775806 := by
      simp only [List.length_append, List.length_cons] at hl
      omega
    have hst : ∀ k, signalbenchref12_place.l0 (k + 1) (pre ++ x :: post) s (pre.length : Int) = if x.toList = s.toList then some (pre.length : Int) else signalbenchref12_place.l0 k (pre ++ x :: post) s ((pre ++ [x]).length : Int) := by
      intro k
      simp only [signalbenchref12_place.l0]
      rw [rds_mid, if_pos hlt, if_pos (by omega), succ_mid _ _ hn]
    unfold ixS
    by_cases c : s.toList = x.toList
    · rw [if_pos c]
      exact Ev.step (fun k => (hst k).trans (if_pos c.symm)) (Ev.now _)
    · rw [if_neg c]
      have ih := place12_l0 s post (pre ++ [x]) (by simpa using hl)
      rw [← mid_snoc] at ih
      have e : (pre ++ [x]).length = pre.length + 1 := by simp
      rw [e] at ih
      refine Ev.step (fun k => (hst k).trans (if_neg (fun h => c h.symm))) ?_
      rw [e]
      exact ih
theorem place12_ev (l : List ByteArray) (s : ByteArray) (hl : l.length ≤ 140737488351232) : Ev (fun k => signalbenchref12_place.f k l s) (ixS s 0 l) := Ev.congr (fun k => rfl) (place12_l0 s l [] (by simpa using hl))
theorem cln_at {m : Int} : ∀ (l : List S48) {o : List S48} {t : Int}, RunsM m o → RunsM m l → 0 ≤ t → atS (cln o l) t = atS (o ++ l) t
  | [], o, t, ho, hl, ht => by rw [List.append_nil]; rfl
  | x :: l, o, t, ho, hl, ht => by
    have hx := hl.cons
    have h1 := putR_ok (v := x.f0) (t := x.f1) ho ⟨hx.1.1, hx.1.2.1⟩ hx.1.2.2
    show atS (cln (putR o x.f0 x.f1) l) t = _
    rw [cln_at l h1 hx.2 ht, atS_append _ _ h1 ht, atS_append _ _ ho ht, putR_sm, atS_putR ho ht (by omega), atS_cons]
    by_cases c : t < sm o
    · rw [if_pos (by omega), if_pos c, if_pos c]
    · rw [if_neg c, if_neg c]
      by_cases c1 : t - sm o < x.f1
      · rw [if_pos (by omega), if_pos c1, if_pos c1]
      · rw [if_neg (by omega), if_neg c1, show t - (sm o + x.f1) = t - sm o - x.f1 by omega]
theorem wrapN {n : Nat} (h : n < 9223372036854775808) : IntKind.i64.wrap (n : Int) = (n : Int) := by
  rw [IntKind.wrap_i64]
  omega
theorem ofIntN {n : Nat} (h : n < 9223372036854775808) : (BitVec.ofInt 64 (n : Int)).toNat = n := by
  rw [BitVec.toNat_ofInt]
  omega
theorem orN {a b : Nat} (ha : a < 65536) (hb : b < 65536) : Go.bits .or .i64 (a : Int) (b : Int) = ((a ||| b : Nat) : Int) := by
  have e1 : Go.bits .or .i64 (a : Int) (b : Int) = IntKind.i64.wrap (((BitVec.ofInt 64 (a : Int) ||| BitVec.ofInt 64 (b : Int)).toNat : Nat) : Int) := rfl
  have h : a ||| b < 2 ^ 16 := Nat.or_lt_two_pow (by omega) (by omega)
  rw [e1, BitVec.toNat_or, ofIntN (by omega), ofIntN (by omega), wrapN (by omega)]
theorem shlN {b p : Nat} (hb : b * 2 ^ p < 65536) (hp : p ≤ 16) : shl .i64 (b : Int) (p : Int) = ((b * 2 ^ p : Nat) : Int) := by
  have e : shl .i64 (b : Int) (p : Int) = IntKind.i64.wrap ((b : Int) * 2 ^ p) := by
    show IntKind.i64.wrap ((b : Int) * 2 ^ min ((p : Int).toNat) IntKind.i64.bits) = _
    rw [Int.toNat_natCast, show IntKind.i64.bits = 64 from rfl, Nat.min_eq_left (by omega)]
  rw [e, show (b : Int) * 2 ^ p = ((b * 2 ^ p : Nat) : Int) by norm_cast, wrapN (by omega)]
/-- Both levels in one. -/
def lv (p : Nat) (a b : Int) : Int := Go.bits .or .i64 a (shl .i64 b (p : Int))
theorem pow_q {p q b : Nat} (hb : b < 2 ^ q) (h : p + q ≤ 16) : b * 2 ^ p + 2 ^ p ≤ 2 ^ (p + q) ∧ 2 ^ (p + q) ≤ 65536 := by
  have h1 : (b + 1) * 2 ^ p ≤ 2 ^ q * 2 ^ p := Nat.mul_le_mul_right _ hb
  rw [Nat.add_mul, Nat.one_mul] at h1
  rw [Nat.pow_add, Nat.mul_comm (2 ^ p) (2 ^ q)]
  have h2 : 2 ^ (q + p) ≤ 2 ^ 16 := Nat.pow_le_pow_right (by omega) (by omega)
  rw [Nat.pow_add] at h2
  omega
theorem lv_eq {p q a b : Nat} (ha : a < 2 ^ p) (hb : b < 2 ^ q) (h : p + q ≤ 16) : lv p (a : Int) (b : Int) = ((b * 2 ^ p + a : Nat) : Int) := by
  have h1 := pow_q (p := p) hb h
  have hp := Nat.two_pow_pos p
  unfold lv
  rw [shlN (by omega) (by omega), orN (by omega) (by omega), Nat.or_comm, Nat.mul_comm b, ← Nat.two_pow_add_eq_or_of_lt ha]
theorem lv_le {p q : Nat} {a b : Int} (ha : 0 ≤ a ∧ a < ((2 ^ p : Nat) : Int)) (hb : 0 ≤ b ∧ b < ((2 ^ q : Nat) : Int)) (h : p + q ≤ 16) : 0 ≤ lv p a b ∧ lv p a b < ((2 ^ (p + q) : Nat) : Int) := by
  obtain ⟨a, rfl⟩ := Int.eq_ofNat_of_zero_le ha.1
  obtain ⟨b, rfl⟩ := Int.eq_ofNat_of_zero_le hb.1
  have ha' : a < 2 ^ p := by exact_mod_cast ha.2
  have hb' : b < 2 ^ q := by exact_mod_cast hb.2
  have h1 := pow_q (p := p) hb' h
  rw [lv_eq ha' hb' h]
  omega
theorem mk_eq {l : List ByteArray} (h : l.length ≤ 16) : mk l = ((2 ^ l.length : Nat) : Int) - 1 := by
  obtain ⟨n, hn⟩ : ∃ n, n = l.length := ⟨_, rfl⟩
  unfold mk
  rw [← hn] at h ⊢
  clear hn
  have : ∀ n : Fin 17, wrap64 ((shl .i64 1 ((n.val : Nat) : Int)) - 1) = ((2 ^ n.val : Nat) : Int) - 1 := by decide +kernel
  exact this ⟨n, by omega⟩
def cutL (s : Int) : List S48 → List S48
  | [] => []
  | x :: l => if x.f1 = s then l else (⟨x.f0, x.f1 - s⟩ : S48) :: l
def zipM (p : Nat) : Nat → List S48 → List S48 → List S48
  | 0, _, _ => []
  | n + 1, x :: a, y :: b => (⟨lv p x.f0 y.f0, mn x.f1 y.f1⟩ : S48) :: zipM p n (cutL (mn x.f1 y.f1) (x :: a)) (cutL (mn x.f1 y.f1) (y :: b))
  | _ + 1, _, _ => []
theorem cutL_cons (s : Int) (x : S48) (l : List S48) : cutL s (x :: l) = if x.f1 = s then l else (⟨x.f0, x.f1 - s⟩ : S48) :: l := rfl
theorem cutL_sm {s : Int} (x : S48) (l : List S48) : sm (cutL s (x :: l)) = sm (x :: l) - s := by
  rw [cutL_cons]
  split <;> (simp only [sm]; omega)
theorem cutL_ok {m s : Int} {x : S48} {l : List S48} (h : RunsM m (x :: l)) (hs : s ≤ x.f1) : RunsM m (cutL s (x :: l)) := by
  have hx := h.cons
  rw [cutL_cons]
  split
  · exact hx.2
  · intro y hy
    rcases List.mem_cons.1 hy with rfl | hy
    · exact ⟨hx.1.1, hx.1.2.1, by show 1 ≤ x.f1 - s; omega⟩
    · exact hx.2 y hy
theorem cutL_len (s : Int) (x : S48) (l : List S48) : (cutL s (x :: l)).length ≤ l.length + 1 := by
  rw [cutL_cons]
  split <;> simp
theorem cutL_at {s t : Int} (x : S48) (l : List S48) (hs : s ≤ x.f1) (ht : s ≤ t) : atS (cutL s (x :: l)) (t - s) = atS (x :: l) t := by
  rw [cutL_cons]
  split
  · rename_i c
    rw [atS_cons, if_neg (by omega), c]
  · rw [atS_cons, atS_cons]
    show (if t - s < x.f1 - s then (x.f0, true) else atS l (t - s - (x.f1 - s))) = _
    by_cases c : t < x.f1
    · rw [if_pos (by omega), if_pos c]
    · rw [if_neg (by omega), if_neg c, show t - s - (x.f1 - s) = t - x.f1 by omega]
theorem both_cons {m1 m2 : Int} {a b : List S48} (ha : RunsM m1 a) (hb : RunsM m2 b) (e : sm a = sm b) : (a = [] ∧ b = []) ∨ ∃ x a' y b', a = x :: a' ∧ b = y :: b' := by
  cases a with
  | nil =>
    cases b with
    | nil => exact .inl ⟨rfl, rfl⟩
    | cons y b =>
      have h1 := hb.cons
      have h2 := smM_nonneg h1.2
      simp only [sm] at e
      omega
  | cons x a =>
    cases b with
    | nil =>
      have h1 := ha.cons
      have h2 := smM_nonneg h1.2
      simp only [sm] at e
      omega
    | cons y b => exact .inr ⟨x, a, y, b, rfl, rfl⟩
theorem cut_two (x y : S48) (a b : List S48) : (cutL (mn x.f1 y.f1) (x :: a)).length + (cutL (mn x.f1 y.f1) (y :: b)).length ≤ a.length + b.length + 1 := by
  have h := mn_le x.f1 y.f1
  have h1 := cutL_len (mn x.f1 y.f1) x a
  have h2 := cutL_len (mn x.f1 y.f1) y b
  rcases h.2.2 with c | c
  · have e : cutL (mn x.f1 y.f1) (x :: a) = a := if_pos c.symm
    rw [e] at h1 ⊢
    omega
  · have e : cutL (mn x.f1 y.f1) (y :: b) = b := if_pos c.symm
    rw [e] at h2 ⊢
    omega
theorem zipM_all {p q : Nat} (h : p + q ≤ 16) {m1 m2 : Int} (e1 : m1 < ((2 ^ p : Nat) : Int)) (e2 : m2 < ((2 ^ q : Nat) : Int)) : ∀ (n : Nat) (a b : List S48), a.length + b.length ≤ n → RunsM m1 a → RunsM m2 b → sm a = sm b →
    sm (zipM p n a b) = sm a ∧ RunsM (((2 ^ (p + q) : Nat) : Int) - 1) (zipM p n a b) ∧ (zipM p n a b).length ≤ n ∧ ∀ t, 0 ≤ t → t < sm a → atS (zipM p n a b) t = (lv p (atS a t).1 (atS b t).1, true)
  | 0, a, b, hn, ha, hb, e => by
    have : a = [] := List.eq_nil_of_length_eq_zero (by omega)
    subst this
    exact ⟨rfl, fun x hx => by simp [zipM] at hx, Nat.le_refl _, fun t h0 h1 => by simp only [sm] at h1; omega⟩
  | n + 1, a, b, hn, ha, hb, e => by
    rcases both_cons ha hb e with ⟨rfl, rfl⟩ | ⟨x, a, y, b, rfl, rfl⟩
    · exact ⟨rfl, fun x hx => by simp [zipM] at hx, Nat.zero_le _, fun t h0 h1 => by simp only [sm] at h1; omega⟩
    · have hx := ha.cons
      have hy := hb.cons
      have hm := mn_le x.f1 y.f1
      have hs : 1 ≤ mn x.f1 y.f1 := by rcases hm.2.2 with c | c <;> omega
      have hc := cut_two x y a b
      simp only [List.length_cons] at hn
      have ih := zipM_all h e1 e2 n (cutL (mn x.f1 y.f1) (x :: a)) (cutL (mn x.f1 y.f1) (y :: b)) (by omega) (cutL_ok ha hm.1) (cutL_ok hb hm.2.1) (by rw [cutL_sm, cutL_sm, e])
      rw [cutL_sm] at ih
      refine ⟨?_, ?_, ?_, ?_⟩
      · show mn x.f1 y.f1 + sm (zipM p n _ _) = _
        rw [ih.1]
        omega
      · have hl := lv_le (p := p) (q := q) (a := x.f0) (b := y.f0) ⟨hx.1.1, by omega⟩ ⟨hy.1.1, by omega⟩ h
        intro z hz
        rcases List.mem_cons.1 (show z ∈ (⟨lv p x.f0 y.f0, mn x.f1 y.f1⟩ : S48) :: zipM p n _ _ from hz) with rfl | hz
        · exact ⟨hl.1, by show lv p x.f0 y.f0 ≤ _; omega, hs⟩
        · exact ih.2.1 z hz
      · have := ih.2.2.1
        show (zipM p n _ _).length + 1 ≤ n + 1
        omega
      · intro t h0 h1
        show (if t < mn x.f1 y.f1 then (lv p x.f0 y.f0, true) else atS (zipM p n _ _) (t - mn x.f1 y.f1)) = _
        by_cases c : t < mn x.f1 y.f1
        · rw [if_pos c, atS_cons, atS_cons, if_pos (by omega), if_pos (by omega)]
        · rw [if_neg c, ih.2.2.2 (t - mn x.f1 y.f1) (by omega) (by omega), cutL_at x a hm.1 (by omega), cutL_at y b hm.2.1 (by omega)]
def redL (u : Int) : List S48 → List S48
  | [] => []
  | x :: l => (⟨x.f0, x.f1 - u⟩ : S48) :: l
theorem redL_0 (l : List S48) : redL 0 l = l := by
  cases l with
  | nil => rfl
  | cons x l =>
    show (⟨x.f0, x.f1 - 0⟩ : S48) :: l = x :: l
    rw [Int.sub_zero]
theorem zip_l0 {p : Nat} {m1 m2 : Int} : ∀ (n : Nat) (pa a pb b o : List S48) (u v : Int), a.length + b.length ≤ n → RunsM m1 (redL u a) → RunsM m2 (redL v b) → RunsM m1 a → RunsM m2 b → sm (redL u a) = sm (redL v b) → 0 ≤ u → 0 ≤ v → Tk o → sm o + sm (redL u a) ≤ 1099511627776 → sm a ≤ 1099511627776 → sm b ≤ 1099511627776 → (pa ++ a).length ≤ 1000000 → (pb ++ b).length ≤ 1000000 → o.length + n ≤ 10000000 →
    Ev (fun k => remap_zip.l0 k (pa ++ a) (pb ++ b) (p : Int) o (pa.length : Int) (pb.length : Int) u v) (cln o (zipM p n (redL u a) (redL v b)))
  | 0, pa, a, pb, b, o, u, v, hn, ha, hb, ha0, hb0, e, hu, hv, ho, hso, hsa, hsb, hpa, hpb, hol => by
    have : a = [] := List.eq_nil_of_length_eq_zero (by omega)
    subst this
    refine Ev.step (f := fun _ => some o) (fun k => ?_) (Ev.now _)
    simp only [remap_zip.l0]
    rw [if_neg (by simp)]
  | n + 1, pa, a, pb, b, o, u, v, hn, ha, hb, ha0, hb0, e, hu, hv, ho, hso, hsa, hsb, hpa, hpb, hol => by
    cases a with
    | nil =>
      refine Ev.step (f := fun _ => some o) (fun k => ?_) (Ev.now _)
      simp only [remap_zip.l0]
      rw [if_neg (by simp)]
    | cons x a =>
      cases b with
      | nil =>
        have h1 := ha.cons
        have h2 := smM_nonneg h1.2
        simp only [redL, sm] at e h1
        omega
      | cons y b =>
        have hx := ha.cons
        have hy := hb.cons
        have hx0 := ha0.cons
        have hy0 := hb0.cons
        have hxs := smM_nonneg hx0.2
        have hys := smM_nonneg hy0.2
        have hos := smT_nonneg ho
        have e' := e
        simp only [redL, sm] at e' hso hsa hsb
        have hx1 : 1 ≤ x.f1 - u := hx.1.2.2
        have hy1 : 1 ≤ y.f1 - v := hy.1.2.2
        have hm := mn_le (x.f1 - u) (y.f1 - v)
        have hs : 1 ≤ mn (x.f1 - u) (y.f1 - v) := by rcases hm.2.2 with c | c <;> omega
        have hlx := mid_lt pa a x
        have hly := mid_lt pb b y
        have hpa' : pa.length ≤ 1000000 := by
          simp only [List.length_append] at hpa
          omega
        have hpb' : pb.length ≤ 1000000 := by
          simp only [List.length_append] at hpb
          omega
        have exa := succ_mid pa x (by omega)
        have exb := succ_mid pb y (by omega)
        simp only [List.length_cons] at hn
        have ew1 : wrap64 (x.f1 - u) = x.f1 - u := w64 (by omega) (by omega)
        have ew2 : wrap64 (y.f1 - v) = y.f1 - v := w64 (by omega) (by omega)
        have hz : zipM p (n + 1) (redL u (x :: a)) (redL v (y :: b)) = (⟨lv p x.f0 y.f0, mn (x.f1 - u) (y.f1 - v)⟩ : S48) :: zipM p n (cutL (mn (x.f1 - u) (y.f1 - v)) (redL u (x :: a))) (cutL (mn (x.f1 - u) (y.f1 - v)) (redL v (y :: b))) := rfl
        have hca : RunsM m1 (cutL (mn (x.f1 - u) (y.f1 - v)) (redL u (x :: a))) := cutL_ok ha hm.1
        have hcb : RunsM m2 (cutL (mn (x.f1 - u) (y.f1 - v)) (redL v (y :: b))) := cutL_ok hb hm.2.1
        have hsm1 : sm (cutL (mn (x.f1 - u) (y.f1 - v)) (redL u (x :: a))) = sm (redL u (x :: a)) - mn (x.f1 - u) (y.f1 - v) := cutL_sm _ _
        have hsm2 : sm (cutL (mn (x.f1 - u) (y.f1 - v)) (redL v (y :: b))) = sm (redL v (y :: b)) - mn (x.f1 - u) (y.f1 - v) := cutL_sm _ _
        have hsm0 : sm (redL u (x :: a)) = x.f1 - u + sm a := rfl
        have hst : ∀ k, remap_zip.l0 (k + 1) (pa ++ x :: a) (pb ++ y :: b) (p : Int) o (pa.length : Int) (pb.length : Int) u v = if u + mn (x.f1 - u) (y.f1 - v) = x.f1 then (if v + mn (x.f1 - u) (y.f1 - v) = y.f1 then remap_zip.l0 k (pa ++ x :: a) (pb ++ y :: b) (p : Int) (putR o (lv p x.f0 y.f0) (mn (x.f1 - u) (y.f1 - v))) ((pa ++ [x]).length : Int) ((pb ++ [y]).length : Int) 0 0 else remap_zip.l0 k (pa ++ x :: a) (pb ++ y :: b) (p : Int) (putR o (lv p x.f0 y.f0) (mn (x.f1 - u) (y.f1 - v))) ((pa ++ [x]).length : Int) (pb.length : Int) 0 (v + mn (x.f1 - u) (y.f1 - v)))
            else (if v + mn (x.f1 - u) (y.f1 - v) = y.f1 then remap_zip.l0 k (pa ++ x :: a) (pb ++ y :: b) (p : Int) (putR o (lv p x.f0 y.f0) (mn (x.f1 - u) (y.f1 - v))) (pa.length : Int) ((pb ++ [y]).length : Int) (u + mn (x.f1 - u) (y.f1 - v)) 0 else remap_zip.l0 k (pa ++ x :: a) (pb ++ y :: b) (p : Int) (putR o (lv p x.f0 y.f0) (mn (x.f1 - u) (y.f1 - v))) (pa.length : Int) (pb.length : Int) (u + mn (x.f1 - u) (y.f1 - v)) (v + mn (x.f1 - u) (y.f1 - v))) := by
          intro k
          have hj : remap_join.f o (lv p x.f0 y.f0) (mn (x.f1 - u) (y.f1 - v)) = some (putR o (lv p x.f0 y.f0) (mn (x.f1 - u) (y.f1 - v))) := by
            exact rjoin_eq (by omega) (by omega) (fun z hz => by have := leT_sm ho z hz; omega)
          have ew3 : wrap64 (u + mn (x.f1 - u) (y.f1 - v)) = u + mn (x.f1 - u) (y.f1 - v) := w64 (by omega) (by omega)
          have ew4 : wrap64 (v + mn (x.f1 - u) (y.f1 - v)) = v + mn (x.f1 - u) (y.f1 - v) := w64 (by omega) (by omega)
          simp only [remap_zip.l0]
          rw [rd_mid, rd_mid, if_pos hlx, if_pos (Int.natCast_nonneg _), if_pos (Int.natCast_nonneg _), if_pos hly, if_pos (Int.natCast_nonneg _), ew1, ew2, ew3, ew4, exa, exb]
          show (remap_join.f o (lv p x.f0 y.f0) (mn (x.f1 - u) (y.f1 - v))).bind _ = _
          rw [hj, Option.bind_some]
        have hput := putR_tk (v := lv p x.f0 y.f0) ho hs
        have hpl := putR_len o (lv p x.f0 y.f0) (mn (x.f1 - u) (y.f1 - v))
        have hps := putR_sm o (lv p x.f0 y.f0) (mn (x.f1 - u) (y.f1 - v))
        rw [hz]
        show Ev _ (cln (putR o (lv p x.f0 y.f0) (mn (x.f1 - u) (y.f1 - v))) (zipM p n _ _))
        by_cases ca : u + mn (x.f1 - u) (y.f1 - v) = x.f1
        · have ea : cutL (mn (x.f1 - u) (y.f1 - v)) (redL u (x :: a)) = redL 0 a := (if_pos (show x.f1 - u = mn (x.f1 - u) (y.f1 - v) by omega)).trans (redL_0 a).symm
          rw [ea] at hca hsm1 ⊢
          by_cases cb : v + mn (x.f1 - u) (y.f1 - v) = y.f1
          · have eb : cutL (mn (x.f1 - u) (y.f1 - v)) (redL v (y :: b)) = redL 0 b := (if_pos (show y.f1 - v = mn (x.f1 - u) (y.f1 - v) by omega)).trans (redL_0 b).symm
            rw [eb] at hcb hsm2 ⊢
            have ih := zip_l0 (p := p) n (pa ++ [x]) a (pb ++ [y]) b (putR o (lv p x.f0 y.f0) (mn (x.f1 - u) (y.f1 - v))) 0 0 (by omega) hca hcb hx0.2 hy0.2 (by omega) (by omega) (by omega) hput (by omega) (by omega) (by omega) (by simpa using hpa) (by simpa using hpb) (by omega)
            rw [← mid_snoc, ← mid_snoc] at ih
            exact Ev.step (fun k => (hst k).trans ((if_pos ca).trans (if_pos cb))) ih
          · have eb : cutL (mn (x.f1 - u) (y.f1 - v)) (redL v (y :: b)) = redL (v + mn (x.f1 - u) (y.f1 - v)) (y :: b) := by
              refine (if_neg (show ¬ y.f1 - v = mn (x.f1 - u) (y.f1 - v) by omega)).trans ?_
              show (⟨y.f0, y.f1 - v - mn (x.f1 - u) (y.f1 - v)⟩ : S48) :: b = (⟨y.f0, y.f1 - (v + mn (x.f1 - u) (y.f1 - v))⟩ : S48) :: b
              rw [Int.sub_sub]
            rw [eb] at hcb hsm2 ⊢
            have ih := zip_l0 (p := p) n (pa ++ [x]) a pb (y :: b) (putR o (lv p x.f0 y.f0) (mn (x.f1 - u) (y.f1 - v))) 0 (v + mn (x.f1 - u) (y.f1 - v)) (by simp only [List.length_cons]; omega) hca hcb hx0.2 hb0 (by omega) (by omega) (by omega) hput (by omega) (by omega) (by simp only [sm]; omega) (by simpa using hpa) hpb (by omega)
            rw [← mid_snoc] at ih
            exact Ev.step (fun k => (hst k).trans ((if_pos ca).trans (if_neg cb))) ih
        · have cb : v + mn (x.f1 - u) (y.f1 - v) = y.f1 := by rcases hm.2.2 with c | c <;> omega
          have ea : cutL (mn (x.f1 - u) (y.f1 - v)) (redL u (x :: a)) = redL (u + mn (x.f1 - u) (y.f1 - v)) (x :: a) := by
            refine (if_neg (show ¬ x.f1 - u = mn (x.f1 - u) (y.f1 - v) by omega)).trans ?_
            show (⟨x.f0, x.f1 - u - mn (x.f1 - u) (y.f1 - v)⟩ : S48) :: a = (⟨x.f0, x.f1 - (u + mn (x.f1 - u) (y.f1 - v))⟩ : S48) :: a
            rw [Int.sub_sub]
          have eb : cutL (mn (x.f1 - u) (y.f1 - v)) (redL v (y :: b)) = redL 0 b := (if_pos (show y.f1 - v = mn (x.f1 - u) (y.f1 - v) by omega)).trans (redL_0 b).symm
          rw [ea] at hca hsm1 ⊢
          rw [eb] at hcb hsm2 ⊢
          have ih := zip_l0 (p := p) n pa (x :: a) (pb ++ [y]) b (putR o (lv p x.f0 y.f0) (mn (x.f1 - u) (y.f1 - v))) (u + mn (x.f1 - u) (y.f1 - v)) 0 (by simp only [List.length_cons]; omega) hca hcb ha0 hy0.2 (by omega) (by omega) (by omega) hput (by omega) (by simp only [sm]; omega) (by omega) hpa (by simpa using hpb) (by omega)
          rw [← mid_snoc] at ih
          exact Ev.step (fun k => (hst k).trans ((if_neg ca).trans (if_pos cb))) ih
def lastF : List S48 → Int
  | [] => 0
  | [x] => x.f0
  | _ :: y :: l => lastF (y :: l)
theorem lastF_snoc (y : S48) : ∀ (q : List S48), lastF (q ++ [y]) = y.f0
  | [] => rfl
  | [x] => rfl
  | x :: z :: q => lastF_snoc y (z :: q)
theorem lastF_ok {m : Int} {l : List S48} (h : RunsM m l) (hm : 0 ≤ m) : 0 ≤ lastF l ∧ lastF l ≤ m := by
  rcases snoc_cases l with rfl | ⟨q, y, rfl⟩
  · exact ⟨Int.le_refl _, hm⟩
  · rw [lastF_snoc]
    have := h y (by simp)
    exact ⟨this.1, this.2.1⟩
def lonV (l : List S48) (long : Int) : List S48 := if sm l = long then l else putR l (lastF l) (long - sm l)
theorem clone_run {l : List S48} (h : l.length ≤ 8796093022207) : slices_Clone_Run.f l = some l := by
  unfold slices_Clone_Run.f
  rw [if_pos (by omega)]
theorem longer_eq {m long : Int} {l : List S48} (h : RunsM m l) (hl : l.length ≤ 262144) (hs : sm l ≤ long) (hL : long ≤ 1099511627776) : remap_longer.f l (sm l) long = some (lonV l long) := by
  unfold remap_longer.f lonV
  rw [clone_run (by omega), Option.bind_some]
  by_cases c : sm l = long
  · rw [if_pos c, if_pos c]
  · rw [if_neg c, if_neg c]
    rcases snoc_cases l with rfl | ⟨q, y, rfl⟩
    · rw [if_pos (by simp), putR_nil]
      show some [(⟨0, long⟩ : S48)] = some [(⟨0, long - 0⟩ : S48)]
      rw [Int.sub_zero]
    · have hy := h y (by simp)
      have h0 := smM_nonneg (m := m) (l := q) (fun z hz => h z (by simp [hz]))
      have e1 := sm_append q [y]
      simp only [sm] at e1
      have hq : q.length ≤ 262144 := by
        simp only [List.length_append] at hl
        omega
      have e2 := last_at q y (by omega)
      have e3 : wrap64 (long - sm (q ++ [y])) = long - sm (q ++ [y]) := w64 (by omega) (by omega)
      rw [if_neg (by simp only [List.length_append, List.length_cons]; omega), e2, if_pos (Int.natCast_nonneg _), if_pos (by simp only [List.length_append, List.length_cons]; omega), rd_last, set_last, e3, w64 (x := y.f1 + (long - sm (q ++ [y]))) (by omega) (by omega), lastF_snoc, putR_same]
theorem lonV_ok {m long : Int} {l : List S48} (h : RunsM m l) (hm : 0 ≤ m) (hs : sm l ≤ long) : RunsM m (lonV l long) ∧ sm (lonV l long) = long ∧ (lonV l long).length ≤ l.length + 1 ∧ ∀ t, 0 ≤ t → t < sm l → atS (lonV l long) t = atS l t := by
  unfold lonV
  by_cases c : sm l = long
  · rw [if_pos c]
    exact ⟨h, c, by omega, fun _ _ _ => rfl⟩
  · rw [if_neg c]
    refine ⟨putR_ok h (lastF_ok h hm) (by omega), ?_, putR_len _ _ _, fun t h0 h1 => ?_⟩
    · rw [putR_sm]
      omega
    · rw [atS_putR h h0 (by omega), if_pos h1]
theorem Concat_two {a b : List ByteArray} (ha : a.length ≤ 1000000) (hb : b.length ≤ 1000000) : Ev (fun k => slices_Concat_string.f k [a, b]) (a ++ b) := by
  have r0 : rd_L3 [a, b] 0 = a := rfl
  have r1 : rd_L3 [a, b] 1 = b := rfl
  have w1 : wrap64 (0 + 1) = 1 := by decide +kernel
  have w2 : wrap64 (1 + 1) = 2 := by decide +kernel
  have wa : wrap64 (0 + (a.length : Int)) = (a.length : Int) := by rw [Int.zero_add]; exact w64 (by omega) (by omega)
  have wb : wrap64 ((a.length : Int) + (b.length : Int)) = ((a.length + b.length : Nat) : Int) := by
    rw [w64 (by omega) (by omega)]
    omega
  have hG : slices_Grow_string.f ((a.length + b.length : Nat) : Int) = some [] := by
    unfold slices_Grow_string.f
    rw [if_pos (by omega), if_pos (by omega)]
  have l3 : Ev (fun k => slices_Concat_string.l1 k (a ++ b) [a, b] 2 2) (a ++ b) := Ev.step (f := fun _ => some (a ++ b)) (fun k => by simp only [slices_Concat_string.l1]; rw [if_neg (by decide)]) (Ev.now _)
  have l2 : Ev (fun k => slices_Concat_string.l1 k a [a, b] 2 1) (a ++ b) := Ev.step (fun k => by
    simp only [slices_Concat_string.l1]
    rw [if_pos (by decide), if_pos (by decide), if_pos (by simp only [List.length_cons, List.length_nil]; decide), r1, if_pos (by omega), w2]) l3
  have l1 : Ev (fun k => slices_Concat_string.l1 k [] [a, b] 2 0) (a ++ b) := Ev.step (fun k => by
    simp only [slices_Concat_string.l1]
    rw [if_pos (by decide), if_pos (by decide), if_pos (by simp only [List.length_cons, List.length_nil]; decide), r0, if_pos (by simp only [List.length_nil]; omega), w1, List.nil_append]) l2
  have s3 : Ev (fun k => slices_Concat_string.l0 k [a, b] ((a.length + b.length : Nat) : Int) [a, b] 2 2) (a ++ b) := Ev.step (fun k => by
    simp only [slices_Concat_string.l0]
    rw [if_neg (by decide), hG, Option.bind_some]
    rfl) l1
  have s2 : Ev (fun k => slices_Concat_string.l0 k [a, b] (a.length : Int) [a, b] 2 1) (a ++ b) := Ev.step (fun k => by
    simp only [slices_Concat_string.l0]
    rw [if_pos (by decide), if_pos (by decide), if_pos (by simp only [List.length_cons, List.length_nil]; decide), r1, wb, if_neg (by omega), w2]) s3
  refine Ev.step (f := fun k => slices_Concat_string.l0 k [a, b] (a.length : Int) [a, b] 2 1) (fun k => ?_) s2
  show slices_Concat_string.l0 (k + 1) [a, b] 0 [a, b] 2 0 = _
  simp only [slices_Concat_string.l0]
  rw [if_pos (by decide), if_pos (by decide), if_pos (by simp only [List.length_cons, List.length_nil]; decide), r0, wa, if_neg (by omega), w1]
def mrgR (p : Nat) (a b : List S48) : List S48 := cln [] (zipM p ((lonV a (mx (sm a) (sm b))).length + (lonV b (mx (sm a) (sm b))).length) (lonV a (mx (sm a) (sm b))) (lonV b (mx (sm a) (sm b))))
def mrgV (ca : List ByteArray) (ra : List S48) (cb : List ByteArray) (rb : List S48) : List ByteArray × List S48 × Int :=
  if chkV ca ra = 0 then (if chkV cb rb = 0 then (if tw (ca ++ cb) = true then ([], [], 9) else if 16 < (ca ++ cb).length then ([], [], 6) else if 262144 < (mrgR ca.length ra rb).length then ([], [], 6) else (ca ++ cb, mrgR ca.length ra rb, 0)) else ([], [], chkV cb rb)) else ([], [], chkV ca ra)
theorem Merge_ev {ca cb : List ByteArray} {ra rb : List S48} (hsa : StrsOk ca) (hsb : StrsOk cb) (hca : ca.length ≤ 100000) (hcb : cb.length ≤ 100000) (hra : ra.length ≤ 140737488351232) (hrb : rb.length ≤ 140737488351232) : Ev (fun k => remap_Merge.f k ca ra cb rb) (mrgV ca ra cb rb) := by
  unfold mrgV
  refine Ev.bind (Check_ev hsa (by omega) hra) ?_
  by_cases c : chkV ca ra = 0
  · rw [if_pos c]
    refine Ev.congr (fun k => if_pos c) (Ev.bind (Check_ev hsb (by omega) hrb) ?_)
    by_cases c1 : chkV cb rb = 0
    · rw [if_pos c1]
      refine Ev.congr (fun k => if_pos c1) (Ev.bind (Concat_two (by omega) (by omega)) ?_)
      have hs : StrsOk (ca ++ cb) := fun s h => (List.mem_append.1 h).elim (hsa s) (hsb s)
      rw [twice_eq hs (by rw [List.length_append]; omega)]
      refine Ev.congr (fun k => Option.bind_some _ _) ?_
      by_cases c2 : tw (ca ++ cb) = true
      · rw [if_pos c2]
        exact Ev.congr (fun k => if_pos c2) (Ev.now _)
      · rw [if_neg c2]
        refine Ev.congr (fun k => if_neg c2) ?_
        by_cases c3 : 16 < (ca ++ cb).length
        · rw [if_pos c3]
          exact Ev.congr (fun k => if_pos (by omega)) (Ev.now _)
        · rw [if_neg c3]
          refine Ev.congr (fun k => if_neg (by omega)) ?_
          have ha := chk_0 c
          have hb := chk_0 c1
          have h16 : ca.length + cb.length ≤ 16 := by
            rw [List.length_append] at c3
            omega
          have ma := mk_eq (l := ca) (by omega)
          have mb := mk_eq (l := cb) (by omega)
          have pa := Nat.two_pow_pos ca.length
          have pb := Nat.two_pow_pos cb.length
          have hLa := Long_ev (r := ra) hsa (by omega) hra
          have hLb := Long_ev (r := rb) hsb (by omega) hrb
          rw [show longC ca ra = sm ra from if_pos c] at hLa
          rw [show longC cb rb = sm rb from if_pos c1] at hLb
          refine Ev.bind hLa (Ev.bind hLb ?_)
          have hx := mx_le (sm ra) (sm rb)
          have hxL : mx (sm ra) (sm rb) ≤ 1099511627776 := by
            have h1 := ha.2.2.2
            have h2 := hb.2.2.2
            rcases hx.2.2 with e | e <;> omega
          have ea := longer_eq ha.2.2.1 ha.1 hx.1 hxL
          have eb := longer_eq hb.2.2.1 hb.1 hx.2.1 hxL
          have oa := lonV_ok ha.2.2.1 (by omega) hx.1
          have ob := lonV_ok hb.2.2.1 (by omega) hx.2.1
          rw [ea]
          refine Ev.congr (fun k => Option.bind_some _ _) ?_
          rw [eb]
          refine Ev.congr (fun k => Option.bind_some _ _) ?_
          have hz := zip_l0 (p := ca.length) ((lonV ra (mx (sm ra) (sm rb))).length + (lonV rb (mx (sm ra) (sm rb))).length) [] (lonV ra (mx (sm ra) (sm rb))) [] (lonV rb (mx (sm ra) (sm rb))) [] 0 0 (Nat.le_refl _) (by rw [redL_0]; exact oa.1) (by rw [redL_0]; exact ob.1) oa.1 ob.1 (by rw [redL_0, redL_0, oa.2.1, ob.2.1]) (by omega) (by omega) (fun x hx => by simp at hx) (by rw [redL_0, oa.2.1]; simp only [sm]; omega) (by rw [oa.2.1]; exact hxL) (by rw [ob.2.1]; exact hxL) (by have h1 := oa.2.2.1; have h2 := ha.1; simp only [List.nil_append]; omega) (by have h1 := ob.2.2.1; have h2 := hb.1; simp only [List.nil_append]; omega) (by have h1 := ob.2.2.1; have h2 := hb.1; have h3 := oa.2.2.1; have h4 := ha.1; simp only [List.length_nil]; omega)
          rw [redL_0, redL_0] at hz
          refine Ev.bind (Ev.congr (fun k => rfl) hz) ?_
          show Ev (fun k => if ((mrgR ca.length ra rb).length : Int) > 262144 then (some (([] : List ByteArray), ([] : List S48), (6 : Int))) else (some (ca ++ cb, mrgR ca.length ra rb, 0))) _
          by_cases c4 : 262144 < (mrgR ca.length ra rb).length
          · rw [if_pos c4]
            exact Ev.congr (fun k => if_pos (by omega)) (Ev.now _)
          · rw [if_neg c4]
            exact Ev.congr (fun k => if_neg (by omega)) (Ev.now _)
    · rw [if_neg c1]
      exact Ev.congr (fun k => if_neg c1) (Ev.now _)
  · rw [if_neg c]
    exact Ev.congr (fun k => if_neg c) (Ev.now _)
theorem tw_pre {a b : List ByteArray} (h : tw (a ++ b) = false) : tw a = false := by
  unfold tw at h ⊢
  rw [List.any_eq_false] at h ⊢
  intro s hs
  have h1 := h s (List.mem_append.2 (.inl hs))
  rw [remap_twice.n_app] at h1
  simp only [decide_eq_true_eq] at h1 ⊢
  omega
theorem nmsV_nmA {l : List ByteArray} (h : nmsV l = 0) : nmA l = true := by
  have hl := nmsV_0 h
  unfold nmsV at h
  rw [if_neg (by omega), if_neg (by omega)] at h
  by_cases c : nmA l = true
  · exact c
  · rw [if_neg c] at h
    omega
theorem mrgR_ok {ca cb : List ByteArray} {ra rb : List S48} (c : chkV ca ra = 0) (c1 : chkV cb rb = 0) (h16 : ca.length + cb.length ≤ 16) :
    sm (mrgR ca.length ra rb) = mx (sm ra) (sm rb) ∧ RunsM (((2 ^ (ca.length + cb.length) : Nat) : Int) - 1) (mrgR ca.length ra rb) ∧ ∀ t, 0 ≤ t → t < mx (sm ra) (sm rb) → atS (mrgR ca.length ra rb) t = (lv ca.length (atS (lonV ra (mx (sm ra) (sm rb))) t).1 (atS (lonV rb (mx (sm ra) (sm rb))) t).1, true) := by
  have ha := chk_0 c
  have hb := chk_0 c1
  have ma := mk_eq (l := ca) (by omega)
  have mb := mk_eq (l := cb) (by omega)
  have pa := Nat.two_pow_pos ca.length
  have pb := Nat.two_pow_pos cb.length
  have hx := mx_le (sm ra) (sm rb)
  have oa := lonV_ok ha.2.2.1 (by omega) hx.1
  have ob := lonV_ok hb.2.2.1 (by omega) hx.2.1
  have hz := zipM_all (p := ca.length) (q := cb.length) h16 (m1 := mk ca) (m2 := mk cb) (by omega) (by omega) ((lonV ra (mx (sm ra) (sm rb))).length + (lonV rb (mx (sm ra) (sm rb))).length) (lonV ra (mx (sm ra) (sm rb))) (lonV rb (mx (sm ra) (sm rb))) (Nat.le_refl _) oa.1 ob.1 (by rw [oa.2.1, ob.2.1])
  unfold mrgR
  refine ⟨?_, cln_ok _ nilM hz.2.1, fun t h0 h1 => ?_⟩
  · rw [cln_sm, hz.1, oa.2.1]
    simp only [sm]
    omega
  · rw [cln_at _ nilM hz.2.1 h0, List.nil_append]
    exact hz.2.2.2 t h0 (by rw [oa.2.1]; exact h1)
theorem ap_short {m1 m2 : Int} {x y : S48} {a b : List S48} (hx : RunsM m1 (x :: a)) (hy : RunsM m2 (y :: b)) (ha : apart (x :: a)) (h0 : x.f0 = y.f0) (h : atS (x :: a) x.f1 = atS (y :: b) x.f1) : ¬ x.f1 < y.f1 := by
  intro c
  have h1 := hx.cons
  rw [atS_cons, if_neg (by omega), Int.sub_self, atS_cons, if_pos c] at h
  cases a with
  | nil =>
    have := congrArg Prod.snd h
    cases this
  | cons z a =>
    have h2 := h1.2.cons
    rw [atS_cons, if_pos (by omega)] at h
    have h3 : z.f0 = y.f0 := congrArg Prod.fst h
    exact ha.1 (h0.trans h3.symm)
theorem ap_tail {x : S48} {a : List S48} (h : apart (x :: a)) : apart a := by
  cases a with
  | nil => trivial
  | cons z a => exact h.2
theorem ap_uniq {m1 m2 : Int} : ∀ (a b : List S48), RunsM m1 a → RunsM m2 b → apart a → apart b → (∀ t, 0 ≤ t → atS a t = atS b t) → a = b
  | [], [], _, _, _, _, _ => rfl
  | [], y :: b, _, hb, _, _, h => by
    have h1 := hb.cons
    have h2 := h 0 (Int.le_refl 0)
    rw [atS_cons, if_pos (by omega)] at h2
    have := congrArg Prod.snd h2
    cases this
  | x :: a, [], ha, _, _, _, h => by
    have h1 := ha.cons
    have h2 := h 0 (Int.le_refl 0)
    rw [atS_cons, if_pos (by omega)] at h2
    have := congrArg Prod.snd h2
    cases this
  | x :: a, y :: b, ha, hb, pa, pb, h => by
    have h1 := ha.cons
    have h2 := hb.cons
    have h0 : x.f0 = y.f0 := by
      have h3 := h 0 (Int.le_refl 0)
      rw [atS_cons, if_pos (by omega), atS_cons, if_pos (by omega)] at h3
      exact congrArg Prod.fst h3
    have h3 := ap_short ha hb pa h0 (h x.f1 (by omega))
    have h4 := ap_short hb ha pb h0.symm (h y.f1 (by omega)).symm
    have h5 : x.f1 = y.f1 := by omega
    have h6 := ap_uniq a b h1.2 h2.2 (ap_tail pa) (ap_tail pb) (fun t ht => by
      have h7 := h (t + x.f1) (by omega)
      rw [atS_cons, if_neg (by omega), atS_cons, if_neg (by omega), ← h5, show t + x.f1 - x.f1 = t by omega] at h7
      exact h7)
    have h7 : x = y := by
      cases x
      cases y
      simp_all
    rw [h6, h7]
def uptV (l : List S48) (long : Int) : List S48 := if sm l = long then l else l ++ [(⟨lastF l, long - sm l⟩ : S48)]
theorem uptV_ok {m long : Int} {l : List S48} (h : RunsM m l) (hm : 0 ≤ m) (hs : sm l ≤ long) : RunsM m (uptV l long) ∧ sm (uptV l long) = long ∧ (uptV l long).length ≤ l.length + 1 ∧ ∀ t, 0 ≤ t → atS (uptV l long) t = atS (lonV l long) t := by
  unfold uptV lonV
  by_cases c : sm l = long
  · rw [if_pos c, if_pos c]
    exact ⟨h, c, by omega, fun _ _ => rfl⟩
  · rw [if_neg c, if_neg c]
    have hL := lastF_ok h hm
    refine ⟨?_, ?_, by simp, fun t h0 => ?_⟩
    · intro y hy
      rcases List.mem_append.1 hy with hy | hy
      · exact h y hy
      · rw [List.mem_singleton] at hy
        subst hy
        exact ⟨hL.1, hL.2, by show 1 ≤ long - sm l; omega⟩
    · rw [sm_append]
      simp only [sm]
      omega
    · rw [atS_putR h h0 (by omega), atS_append _ _ h h0]
      rfl
theorem upto_ev {c : List ByteArray} {l : List S48} {long : Int} (hs : StrsOk c) (hc : c.length ≤ 100000) (h : chkV c l = 0) (h1 : sm l ≤ long) (h2 : long ≤ 1099511627776) : Ev (fun k => signalbenchref12_upto.f k c l long) (uptV l long) := by
  have hk := chk_0 h
  have hl := hk.1
  have h0 := smM_nonneg hk.2.2.1
  have hr8 : ([] : List S48).length + l.length < 8796093022208 := by simp only [List.length_nil]; omega
  have hL := refLong_ev (r := l) hs (by omega) (by omega)
  rw [show longC c l = sm l from if_pos h] at hL
  have ew : wrap64 (long - sm l) = long - sm l := w64 (by omega) (by omega)
  refine Ev.congr (f := fun k => (signalbenchref09_Long.f k c l).bind fun t459 => (if (wrap64 (long - t459)) > 0 then (signalbenchref12_upto.j0 k l (wrap64 (long - t459)) ((l.length : Int) == 0)) else (signalbenchref12_upto.j0 k l (wrap64 (long - t459)) false))) (fun k => ?_) (Ev.bind hL ?_)
  · unfold signalbenchref12_upto.f
    rw [Option.bind_some, if_pos hr8]
    rfl
  · rw [ew]
    unfold uptV
    by_cases c1 : sm l = long
    · rw [if_pos c1]
      refine Ev.congr (fun k => if_neg (by omega)) (Ev.step (f := fun _ => some l) (fun k => ?_) (Ev.now _))
      simp only [signalbenchref12_upto.j0]
      rw [if_neg (by decide), if_neg (by omega)]
    · rw [if_neg c1]
      refine Ev.congr (fun k => if_pos (by omega)) ?_
      rcases snoc_cases l with rfl | ⟨q, y, rfl⟩
      · refine Ev.step (f := fun _ => some [(⟨0, long - 0⟩ : S48)]) (fun k => ?_) (Ev.now _)
        simp only [signalbenchref12_upto.j0]
        rfl
      · have hq : q.length ≤ 262144 := by
          simp only [List.length_append] at hl
          omega
        have e2 := last_at q y (by omega)
        have hne : (((q ++ [y]).length : Int) == 0) = false := beq_eq_false_iff_ne.2 (by simp only [List.length_append, List.length_cons]; omega)
        rw [hne, lastF_snoc]
        refine Ev.step (f := fun _ => some ((q ++ [y]) ++ [(⟨y.f0, long - sm (q ++ [y])⟩ : S48)])) (fun k => ?_) (Ev.now _)
        simp only [signalbenchref12_upto.j0]
        rw [if_neg (by decide), if_pos (by omega), e2, if_pos (Int.natCast_nonneg _), if_pos (by simp only [List.length_append, List.length_cons]; omega), if_pos (by omega), rd_last]
def resM (ca cb : List ByteArray) (Z : List S48) : List ByteArray × List S48 × Int := if 262144 < (cln [] Z).length then ([], [], 6) else (ca ++ cb, cln [] Z, 0)
theorem refMrg_end {ca cb : List ByteArray} {ra rb X Y o : List S48} {i j : Int} (hca : ca.length ≤ 100000) (hcb : cb.length ≤ 100000) (ho : Tk o) (hs : sm o ≤ 1099511627776) (hl : o.length ≤ 262144) : Ev (fun k => signalbenchref12_Merge.j3 k X Y o i j false ca ra cb rb) (resM ca cb o) := by
  refine Ev.step (f := fun k => (signalbenchref09_Clean.f k o).bind fun t486 => (if (t486.length : Int) > 262144 then (some (([] : List ByteArray), ([] : List S48), (6 : Int))) else (some (ca ++ cb, t486, 0)))) (fun k => ?_) (Ev.bind (refCleanT_ev ho hs hl) ?_)
  · simp only [signalbenchref12_Merge.j3]
    rw [if_neg (by decide)]
    refine congrArg _ (funext fun t => ?_)
    by_cases c : (t.length : Int) > 262144
    · rw [if_pos c, if_pos c]
    · rw [if_neg c, if_neg c, Option.bind_some, if_pos (by simp only [List.length_nil]; omega), Option.bind_some, if_pos (by simp only [List.nil_append]; omega)]
      rfl
  · unfold resM
    by_cases c : 262144 < (cln [] o).length
    · rw [if_pos c]
      exact Ev.congr (fun k => if_pos (by omega)) (Ev.now _)
    · rw [if_neg c]
      exact Ev.congr (fun k => if_neg (by omega)) (Ev.now _)
theorem refMrg_l1 {ca cb : List ByteArray} {ra rb : List S48} {m1 m2 : Int} (hca : ca.length ≤ 100000) (hcb : cb.length ≤ 100000) : ∀ (n : Nat) (px a py b o : List S48), a.length + b.length ≤ n → RunsM m1 a → RunsM m2 b → sm a = sm b → Tk o → sm o + sm a ≤ 1099511627776 → (px ++ a).length ≤ 1000000 → (py ++ b).length ≤ 1000000 → o.length + n ≤ 262144 →
    Ev (fun k => signalbenchref12_Merge.l1 k (px ++ a) (py ++ b) o (px.length : Int) (py.length : Int) ca ra cb rb) (resM ca cb (o ++ zipM ca.length n a b))
  | 0, px, a, py, b, o, hn, ha, hb, e, ho, hs, hpx, hpy, hol => by
    have : a = [] := List.eq_nil_of_length_eq_zero (by omega)
    subst this
    simp only [sm] at hs
    rw [show o ++ zipM ca.length 0 [] b = o from List.append_nil o]
    refine Ev.step (fun k => ?_) (refMrg_end (ra := ra) (rb := rb) (X := px ++ []) (Y := py ++ b) (i := (px.length : Int)) (j := (py.length : Int)) hca hcb ho (by omega) (by omega))
    simp only [signalbenchref12_Merge.l1]
    rw [if_neg (by simp)]
  | n + 1, px, a, py, b, o, hn, ha, hb, e, ho, hs, hpx, hpy, hol => by
    rcases both_cons ha hb e with ⟨rfl, rfl⟩ | ⟨x, a, y, b, rfl, rfl⟩
    · simp only [sm] at hs
      rw [show o ++ zipM ca.length (n + 1) [] [] = o from List.append_nil o]
      refine Ev.step (fun k => ?_) (refMrg_end (ra := ra) (rb := rb) (X := px ++ []) (Y := py ++ []) (i := (px.length : Int)) (j := (py.length : Int)) hca hcb ho (by omega) (by omega))
      simp only [signalbenchref12_Merge.l1]
      rw [if_neg (by simp)]
    · have hx := ha.cons
      have hy := hb.cons
      have hxs := smM_nonneg hx.2
      have hys := smM_nonneg hy.2
      have hos := smT_nonneg ho
      have hm := mn_le x.f1 y.f1
      have hs1 : 1 ≤ mn x.f1 y.f1 := by rcases hm.2.2 with c | c <;> omega
      have hc := cut_two x y a b
      have hlx := mid_lt px a x
      have hly := mid_lt py b y
      have hpx' : px.length ≤ 1000000 := by
        simp only [List.length_append] at hpx
        omega
      have hpy' : py.length ≤ 1000000 := by
        simp only [List.length_append] at hpy
        omega
      simp only [List.length_cons] at hn
      have e0 := e
      have hs0 := hs
      simp only [sm] at e0 hs0
      have hca1 := cutL_ok (s := mn x.f1 y.f1) ha hm.1
      have hcb1 := cutL_ok (s := mn x.f1 y.f1) hb hm.2.1
      have hsa := cutL_sm (s := mn x.f1 y.f1) x a
      have hsb := cutL_sm (s := mn x.f1 y.f1) y b
      have exa := succ_mid px (⟨x.f0, x.f1 - mn x.f1 y.f1⟩ : S48) (by omega)
      have exb := succ_mid py (⟨y.f0, y.f1 - mn x.f1 y.f1⟩ : S48) (by omega)
      have ew1 : wrap64 (x.f1 - mn x.f1 y.f1) = x.f1 - mn x.f1 y.f1 := w64 (by omega) (by omega)
      have ew2 : wrap64 (y.f1 - mn x.f1 y.f1) = y.f1 - mn x.f1 y.f1 := w64 (by omega) (by omega)
      have ho' : Tk (o ++ [(⟨lv ca.length x.f0 y.f0, mn x.f1 y.f1⟩ : S48)]) := by
        intro z hz
        rcases List.mem_append.1 hz with hz | hz
        · exact ho z hz
        · rw [List.mem_singleton] at hz
          subst hz
          exact hs1
      have hso' : sm (o ++ [(⟨lv ca.length x.f0 y.f0, mn x.f1 y.f1⟩ : S48)]) = sm o + mn x.f1 y.f1 := by
        rw [sm_append]
        simp only [sm]
        omega
      have hz : o ++ zipM ca.length (n + 1) (x :: a) (y :: b) = (o ++ [(⟨lv ca.length x.f0 y.f0, mn x.f1 y.f1⟩ : S48)]) ++ zipM ca.length n (cutL (mn x.f1 y.f1) (x :: a)) (cutL (mn x.f1 y.f1) (y :: b)) := by
        rw [List.append_assoc]
        rfl
      rw [hz]
      have hst4 : ∀ k, signalbenchref12_Merge.j4 (k + 1) (px ++ x :: a) (py ++ y :: b) o (px.length : Int) (py.length : Int) (mn x.f1 y.f1) ca ra cb rb = (if x.f1 - mn x.f1 y.f1 = 0 then (if y.f1 - mn x.f1 y.f1 = 0 then (signalbenchref12_Merge.l1 k (px ++ (⟨x.f0, x.f1 - mn x.f1 y.f1⟩ : S48) :: a) (py ++ (⟨y.f0, y.f1 - mn x.f1 y.f1⟩ : S48) :: b) (o ++ [(⟨lv ca.length x.f0 y.f0, mn x.f1 y.f1⟩ : S48)]) (((px ++ [(⟨x.f0, x.f1 - mn x.f1 y.f1⟩ : S48)]).length : Nat) : Int) (((py ++ [(⟨y.f0, y.f1 - mn x.f1 y.f1⟩ : S48)]).length : Nat) : Int) ca ra cb rb) else (signalbenchref12_Merge.l1 k (px ++ (⟨x.f0, x.f1 - mn x.f1 y.f1⟩ : S48) :: a) (py ++ (⟨y.f0, y.f1 - mn x.f1 y.f1⟩ : S48) :: b) (o ++ [(⟨lv ca.length x.f0 y.f0, mn x.f1 y.f1⟩ : S48)]) (((px ++ [(⟨x.f0, x.f1 - mn x.f1 y.f1⟩ : S48)]).length : Nat) : Int) (py.length : Int) ca ra cb rb))
          else (if y.f1 - mn x.f1 y.f1 = 0 then (signalbenchref12_Merge.l1 k (px ++ (⟨x.f0, x.f1 - mn x.f1 y.f1⟩ : S48) :: a) (py ++ (⟨y.f0, y.f1 - mn x.f1 y.f1⟩ : S48) :: b) (o ++ [(⟨lv ca.length x.f0 y.f0, mn x.f1 y.f1⟩ : S48)]) (px.length : Int) (((py ++ [(⟨y.f0, y.f1 - mn x.f1 y.f1⟩ : S48)]).length : Nat) : Int) ca ra cb rb) else (signalbenchref12_Merge.l1 k (px ++ (⟨x.f0, x.f1 - mn x.f1 y.f1⟩ : S48) :: a) (py ++ (⟨y.f0, y.f1 - mn x.f1 y.f1⟩ : S48) :: b) (o ++ [(⟨lv ca.length x.f0 y.f0, mn x.f1 y.f1⟩ : S48)]) (px.length : Int) (py.length : Int) ca ra cb rb))) := by
        intro k
        simp only [signalbenchref12_Merge.j4]
        rw [rd_mid, rd_mid, if_pos (Int.natCast_nonneg _), if_pos hlx, if_pos (Int.natCast_nonneg _), if_pos hly, if_pos (by omega), ew1, ew2, set_mid, set_mid, Option.bind_some, Option.bind_some, Option.bind_some, rd_mid, rd_mid, exa, exb]
        rfl
      have hst3 : ∀ k, signalbenchref12_Merge.j3 (k + 1) (px ++ x :: a) (py ++ y :: b) o (px.length : Int) (py.length : Int) true ca ra cb rb = signalbenchref12_Merge.j4 k (px ++ x :: a) (py ++ y :: b) o (px.length : Int) (py.length : Int) (mn x.f1 y.f1) ca ra cb rb := by
        intro k
        simp only [signalbenchref12_Merge.j3]
        rw [rd_mid, rd_mid, if_pos trivial, if_pos (Int.natCast_nonneg _), if_pos hlx, if_pos (Int.natCast_nonneg _), if_pos hly]
        unfold mn
        by_cases c : y.f1 < x.f1
        · rw [if_pos c, if_pos c]
        · rw [if_neg c, if_neg c]
      have hst1 : ∀ k, signalbenchref12_Merge.l1 (k + 1) (px ++ x :: a) (py ++ y :: b) o (px.length : Int) (py.length : Int) ca ra cb rb = signalbenchref12_Merge.j3 k (px ++ x :: a) (py ++ y :: b) o (px.length : Int) (py.length : Int) true ca ra cb rb := by
        intro k
        simp only [signalbenchref12_Merge.l1]
        rw [if_pos hlx, decide_eq_true hly]
      refine Ev.step hst1 (Ev.step hst3 ?_)
      have hlo : (o ++ [(⟨lv ca.length x.f0 y.f0, mn x.f1 y.f1⟩ : S48)]).length = o.length + 1 := by simp
      by_cases ca' : x.f1 = mn x.f1 y.f1
      · have ea : cutL (mn x.f1 y.f1) (x :: a) = a := if_pos ca'
        rw [ea] at hca1 hsa hc ⊢
        by_cases cb' : y.f1 = mn x.f1 y.f1
        · have eb : cutL (mn x.f1 y.f1) (y :: b) = b := if_pos cb'
          rw [eb] at hcb1 hsb hc ⊢
          have ih := refMrg_l1 (ra := ra) (rb := rb) hca hcb n (px ++ [(⟨x.f0, x.f1 - mn x.f1 y.f1⟩ : S48)]) a (py ++ [(⟨y.f0, y.f1 - mn x.f1 y.f1⟩ : S48)]) b _ (by omega) hca1 hcb1 (by omega) ho' (by omega) (by simpa using hpx) (by simpa using hpy) (by omega)
          rw [← mid_snoc, ← mid_snoc] at ih
          exact Ev.step (fun k => (hst4 k).trans ((if_pos (by omega)).trans (if_pos (by omega)))) ih
        · have eb : cutL (mn x.f1 y.f1) (y :: b) = (⟨y.f0, y.f1 - mn x.f1 y.f1⟩ : S48) :: b := if_neg cb'
          rw [eb] at hcb1 hsb hc ⊢
          have ih := refMrg_l1 (ra := ra) (rb := rb) hca hcb n (px ++ [(⟨x.f0, x.f1 - mn x.f1 y.f1⟩ : S48)]) a py ((⟨y.f0, y.f1 - mn x.f1 y.f1⟩ : S48) :: b) _ (by omega) hca1 hcb1 (by omega) ho' (by omega) (by simpa using hpx) (by simpa using hpy) (by omega)
          rw [← mid_snoc] at ih
          exact Ev.step (fun k => (hst4 k).trans ((if_pos (by omega)).trans (if_neg (by omega)))) ih
      · have cb' : y.f1 = mn x.f1 y.f1 := by rcases hm.2.2 with c | c <;> omega
        have ea : cutL (mn x.f1 y.f1) (x :: a) = (⟨x.f0, x.f1 - mn x.f1 y.f1⟩ : S48) :: a := if_neg ca'
        rw [ea] at hca1 hsa hc ⊢
        have eb : cutL (mn x.f1 y.f1) (y :: b) = b := if_pos cb'
        rw [eb] at hcb1 hsb hc ⊢
        have ih := refMrg_l1 (ra := ra) (rb := rb) hca hcb n px ((⟨x.f0, x.f1 - mn x.f1 y.f1⟩ : S48) :: a) (py ++ [(⟨y.f0, y.f1 - mn x.f1 y.f1⟩ : S48)]) b _ (by omega) hca1 hcb1 (by omega) ho' (by omega) (by simpa using hpx) (by simpa using hpy) (by omega)
        rw [← mid_snoc] at ih
        exact Ev.step (fun k => (hst4 k).trans ((if_neg (by omega)).trans (if_pos (by omega)))) ih
theorem tw_of_dup : ∀ (post pre : List ByteArray), tw pre = false → dupS pre post = false → tw (pre ++ post) = false
  | [], pre, h, _ => by rw [List.append_nil]; exact h
  | x :: post, pre, h, h1 => by
    unfold dupS at h1
    by_cases c : ixS x 0 pre ≥ 0
    · rw [if_pos c] at h1
      cases h1
    · rw [if_neg c] at h1
      rw [mid_snoc]
      exact tw_of_dup post (pre ++ [x]) (by rw [tw_snoc h]; exact decide_eq_false c) h1
theorem nms_tw {l : List ByteArray} (h : nmsV l = 0) : dupS [] l = false := by
  have hl := nmsV_0 h
  have ha := nmsV_nmA h
  unfold nmsV at h
  rw [if_neg (by omega), if_neg (by omega), if_pos ha] at h
  by_cases c : dupS [] l = true
  · rw [if_pos c] at h
    omega
  · simpa using c
theorem ixS_app {x : ByteArray} {a b : List ByteArray} (h : ixS x 0 (a ++ b) ≥ 0) : ixS x 0 a ≥ 0 ∨ ixS x 0 b ≥ 0 := by
  obtain ⟨y, hy, e⟩ := (ixS_mem x (a ++ b) 0).1 h
  rcases List.mem_append.1 hy with hy | hy
  · exact .inl ((ixS_mem x a 0).2 ⟨y, hy, e⟩)
  · exact .inr ((ixS_mem x b 0).2 ⟨y, hy, e⟩)
theorem refMrg_l0 {ca cb : List ByteArray} {ra rb : List S48} (hca : ca.length ≤ 100000) (hcb : cb.length ≤ 100000) (R : List ByteArray × List S48 × Int) (hR : tw (ca ++ cb) = false → Ev (fun k => signalbenchref12_Merge.l0 k (cb.length : Int) ca ra cb rb) R) : ∀ (post pre : List ByteArray), cb = pre ++ post → tw (ca ++ pre) = false → dupS pre post = false →
    Ev (fun k => signalbenchref12_Merge.l0 k (pre.length : Int) ca ra cb rb) (if tw (ca ++ cb) = true then ([], [], 9) else R)
  | [], pre, e, h, hd => by
    have e1 : pre = cb := by rw [e]; simp
    subst e1
    rw [if_neg (by rw [h]; decide)]
    exact hR h
  | x :: post, pre, e, h, hd => by
    have hlt : (pre.length : Int) < (cb.length : Int) := by
      rw [e]
      exact mids_lt pre post x
    have hrx : rdOf ByteArray.empty cb (pre.length : Int) = x := by
      rw [e]
      exact rds_mid pre post x
    have hpl : pre.length ≤ 100000 := by omega
    have ex := succ_mid pre x (by omega)
    unfold dupS at hd
    have hd1 : ¬ ixS x 0 pre ≥ 0 := by
      intro c
      rw [if_pos c] at hd
      cases hd
    rw [if_neg hd1] at hd
    have hst : ∀ k, signalbenchref12_Merge.l0 (k + 1) (pre.length : Int) ca ra cb rb = (signalbenchref12_place.f k ca x).bind fun t473 => (if t473 ≥ 0 then (some (([] : List ByteArray), ([] : List S48), (9 : Int))) else (signalbenchref12_Merge.l0 k ((pre ++ [x]).length : Int) ca ra cb rb)) := by
      intro k
      simp only [signalbenchref12_Merge.l0]
      rw [if_pos hlt, if_pos (Int.natCast_nonneg _), hrx, ex]
    refine Ev.step hst (Ev.bind (place12_ev ca x (by omega)) ?_)
    have hsn := tw_snoc (x := x) h
    rw [List.append_assoc] at hsn
    by_cases c : ixS x 0 ca ≥ 0
    · have h1 : tw (ca ++ cb) = true := by
        apply Classical.byContradiction
        intro hn
        have hn' : tw (ca ++ cb) = false := by simpa using hn
        rw [e, mid_snoc, ← List.append_assoc] at hn'
        have h2 := tw_pre hn'
        rw [hsn] at h2
        have h3 := of_decide_eq_false h2
        obtain ⟨y, hy, e2⟩ := (ixS_mem x ca 0).1 c
        exact h3 ((ixS_mem x (ca ++ pre) 0).2 ⟨y, List.mem_append.2 (.inl hy), e2⟩)
      rw [if_pos h1]
      exact Ev.congr (fun k => if_pos c) (Ev.now _)
    · have h2 : tw (ca ++ (pre ++ [x])) = false := by
        rw [hsn]
        exact decide_eq_false (fun h9 => (ixS_app h9).elim c hd1)
      exact Ev.congr (fun k => if_neg c) (refMrg_l0 hca hcb R hR post (pre ++ [x]) (by rw [e]; simp) h2 hd)
theorem mx_top {ca cb : List ByteArray} {ra rb : List S48} (c : chkV ca ra = 0) (c1 : chkV cb rb = 0) : mx (sm ra) (sm rb) ≤ 1099511627776 := by
  have h1 := (chk_0 c).2.2.2
  have h2 := (chk_0 c1).2.2.2
  rcases (mx_le (sm ra) (sm rb)).2.2 with e | e <;> omega
theorem mk_0 {l : List ByteArray} (h : l.length ≤ 16) : 0 ≤ mk l ∧ mk l < ((2 ^ l.length : Nat) : Int) := by
  have h1 := mk_eq h
  have h2 := Nat.two_pow_pos l.length
  omega
theorem upt_zip {ca cb : List ByteArray} {ra rb : List S48} (c : chkV ca ra = 0) (c1 : chkV cb rb = 0) (h16 : ca.length + cb.length ≤ 16) : cln [] (zipM ca.length ((uptV ra (mx (sm ra) (sm rb))).length + (uptV rb (mx (sm ra) (sm rb))).length) (uptV ra (mx (sm ra) (sm rb))) (uptV rb (mx (sm ra) (sm rb)))) = mrgR ca.length ra rb := by
  have ma := mk_0 (l := ca) (by omega)
  have mb := mk_0 (l := cb) (by omega)
  have hx := mx_le (sm ra) (sm rb)
  have ua := uptV_ok (chk_0 c).2.2.1 ma.1 hx.1
  have ub := uptV_ok (chk_0 c1).2.2.1 mb.1 hx.2.1
  have hz := zipM_all (p := ca.length) (q := cb.length) h16 ma.2 mb.2 ((uptV ra (mx (sm ra) (sm rb))).length + (uptV rb (mx (sm ra) (sm rb))).length) (uptV ra (mx (sm ra) (sm rb))) (uptV rb (mx (sm ra) (sm rb))) (Nat.le_refl _) ua.1 ub.1 (by rw [ua.2.1, ub.2.1])
  have hR := mrgR_ok c c1 h16
  refine ap_uniq _ _ (cln_ok _ nilM hz.2.1) hR.2.1 (by rw [cln_jn]; exact jn_apart _) (by unfold mrgR; rw [cln_jn]; exact jn_apart _) (fun t ht => ?_)
  have e1 := cln_at (t := t) _ nilM hz.2.1 ht
  rw [List.nil_append] at e1
  rw [e1]
  by_cases t1 : t < mx (sm ra) (sm rb)
  · rw [hz.2.2.2 t ht (by rw [ua.2.1]; exact t1), hR.2.2 t ht t1, ua.2.2.2 t ht, ub.2.2.2 t ht]
  · rw [atS_out hz.2.1 (by rw [hz.1, ua.2.1]; exact Int.not_lt.1 t1), atS_out hR.2.1 (by rw [hR.1]; exact Int.not_lt.1 t1)]
theorem refMrg_j1 {ca cb : List ByteArray} {ra rb : List S48} (hsa : StrsOk ca) (hsb : StrsOk cb) (hca : ca.length ≤ 100000) (hcb : cb.length ≤ 100000) (hra : ra.length ≤ 100000) (hrb : rb.length ≤ 100000) (c : chkV ca ra = 0) (c1 : chkV cb rb = 0) (h16 : ca.length + cb.length ≤ 16) : Ev (fun k => signalbenchref12_Merge.j1 k (mx (sm ra) (sm rb)) ca ra cb rb) (if 262144 < (mrgR ca.length ra rb).length then ([], [], 6) else (ca ++ cb, mrgR ca.length ra rb, 0)) := by
  have hx := mx_le (sm ra) (sm rb)
  have hxL := mx_top c c1
  have ua := uptV_ok (chk_0 c).2.2.1 (mk_0 (l := ca) (by omega)).1 hx.1
  have ub := uptV_ok (chk_0 c1).2.2.1 (mk_0 (l := cb) (by omega)).1 hx.2.1
  have h1 := ua.2.2.1
  have h2 := ub.2.2.1
  have h3 : sm ([] : List S48) + sm (uptV ra (mx (sm ra) (sm rb))) ≤ 1099511627776 := by
    rw [ua.2.1]
    simp only [sm]
    omega
  have h4 : (([] : List S48) ++ uptV ra (mx (sm ra) (sm rb))).length ≤ 1000000 := by
    rw [List.nil_append]
    omega
  have h5 : (([] : List S48) ++ uptV rb (mx (sm ra) (sm rb))).length ≤ 1000000 := by
    rw [List.nil_append]
    omega
  have h6 : ([] : List S48).length + ((uptV ra (mx (sm ra) (sm rb))).length + (uptV rb (mx (sm ra) (sm rb))).length) ≤ 262144 := by
    simp only [List.length_nil]
    omega
  have hl1 := refMrg_l1 (ca := ca) (cb := cb) (ra := ra) (rb := rb) hca hcb ((uptV ra (mx (sm ra) (sm rb))).length + (uptV rb (mx (sm ra) (sm rb))).length) [] (uptV ra (mx (sm ra) (sm rb))) [] (uptV rb (mx (sm ra) (sm rb))) [] (Nat.le_refl _) ua.1 ub.1 (by rw [ua.2.1, ub.2.1]) (fun x hx => by simp at hx) h3 h4 h5 h6
  rw [List.nil_append, List.nil_append, List.nil_append, resM, upt_zip c c1 h16] at hl1
  refine Ev.step (f := fun k => (signalbenchref12_upto.f k ca ra (mx (sm ra) (sm rb))).bind fun t477 => ((signalbenchref12_upto.f k cb rb (mx (sm ra) (sm rb))).bind fun t480 => (signalbenchref12_Merge.l1 k t477 t480 (([] : List S48)) 0 0 ca ra cb rb))) (fun k => ?_) (Ev.bind (upto_ev hsa hca c hx.1 hxL) (Ev.bind (upto_ev hsb hcb c1 hx.2.1 hxL) hl1))
  simp only [signalbenchref12_Merge.j1]
theorem refMrg_tail {ca cb : List ByteArray} {ra rb : List S48} (hsa : StrsOk ca) (hsb : StrsOk cb) (hca : ca.length ≤ 100000) (hcb : cb.length ≤ 100000) (hra : ra.length ≤ 100000) (hrb : rb.length ≤ 100000) (c : chkV ca ra = 0) (c1 : chkV cb rb = 0) : Ev (fun k => signalbenchref12_Merge.l0 k (cb.length : Int) ca ra cb rb) (if 16 < (ca ++ cb).length then ([], [], 6) else if 262144 < (mrgR ca.length ra rb).length then ([], [], 6) else (ca ++ cb, mrgR ca.length ra rb, 0)) := by
  have ew : wrap64 ((ca.length : Int) + (cb.length : Int)) = ((ca.length + cb.length : Nat) : Int) := by
    rw [w64 (by omega) (by omega)]
    omega
  rw [List.length_append]
  by_cases c3 : 16 < ca.length + cb.length
  · rw [if_pos c3]
    refine Ev.step (f := fun _ => some (([] : List ByteArray), ([] : List S48), (6 : Int))) (fun k => ?_) (Ev.now _)
    simp only [signalbenchref12_Merge.l0]
    rw [if_neg (by omega), ew, if_pos (by omega)]
  · rw [if_neg c3]
    have hLa := refLong_ev (r := ra) hsa (by omega) (by omega)
    have hLb := refLong_ev (r := rb) hsb (by omega) (by omega)
    rw [show longC ca ra = sm ra from if_pos c] at hLa
    rw [show longC cb rb = sm rb from if_pos c1] at hLb
    have hj1 := refMrg_j1 hsa hsb hca hcb hra hrb c c1 (by omega)
    refine Ev.step (f := fun k => (signalbenchref09_Long.f k ca ra).bind fun t474 => ((signalbenchref09_Long.f k cb rb).bind fun t475 => (if t475 > t474 then ((signalbenchref09_Long.f k cb rb).bind fun t476 => (signalbenchref12_Merge.j1 k t476 ca ra cb rb)) else (signalbenchref12_Merge.j1 k t474 ca ra cb rb)))) (fun k => ?_) (Ev.bind hLa (Ev.bind hLb ?_))
    · simp only [signalbenchref12_Merge.l0]
      rw [if_neg (by omega), ew, if_neg (by omega)]
    · by_cases c5 : sm rb > sm ra
      · rw [show mx (sm ra) (sm rb) = sm rb from if_pos c5] at hj1
        exact Ev.congr (fun k => if_pos c5) (Ev.bind hLb hj1)
      · rw [show mx (sm ra) (sm rb) = sm ra from if_neg c5] at hj1
        exact Ev.congr (fun k => if_neg c5) hj1
theorem refMerge_ev {ca cb : List ByteArray} {ra rb : List S48} (hsa : StrsOk ca) (hsb : StrsOk cb) (hca : ca.length ≤ 100000) (hcb : cb.length ≤ 100000) (hra : ra.length ≤ 100000) (hrb : rb.length ≤ 100000) : Ev (fun k => signalbenchref12_Merge.f k ca ra cb rb) (mrgV ca ra cb rb) := by
  unfold mrgV
  refine Ev.bind (refCheck_ev hsa (by omega) (by omega)) ?_
  by_cases c : chkV ca ra = 0
  · rw [if_pos c]
    refine Ev.congr (fun k => if_pos c) (Ev.bind (refCheck_ev hsb (by omega) (by omega)) ?_)
    by_cases c1 : chkV cb rb = 0
    · rw [if_pos c1]
      have htw : tw (ca ++ []) = false := by
        rw [List.append_nil]
        exact tw_of_dup ca [] rfl (nms_tw (chk_0 c).2.1)
      exact Ev.congr (fun k => if_pos c1) (refMrg_l0 (ra := ra) (rb := rb) hca hcb _ (fun _ => refMrg_tail hsa hsb hca hcb hra hrb c c1) cb [] rfl htw (nms_tw (chk_0 c1).2.1))
    · rw [if_neg c1]
      exact Ev.congr (fun k => if_neg c1) (Ev.now _)
  · rw [if_neg c]
    exact Ev.congr (fun k => if_neg c) (Ev.now _)
theorem mrgV_len (ca : List ByteArray) (ra : List S48) (cb : List ByteArray) (rb : List S48) : (mrgV ca ra cb rb).1.length ≤ ca.length + cb.length ∧ (mrgV ca ra cb rb).2.1.length ≤ 262144 := by
  unfold mrgV
  split
  · split
    · split
      · exact ⟨Nat.zero_le _, Nat.zero_le _⟩
      · split
        · exact ⟨Nat.zero_le _, Nat.zero_le _⟩
        · split
          · exact ⟨Nat.zero_le _, Nat.zero_le _⟩
          · exact ⟨by rw [List.length_append]; exact Nat.le_refl _, by show (mrgR ca.length ra rb).length ≤ _; omega⟩
    · exact ⟨Nat.zero_le _, Nat.zero_le _⟩
  · exact ⟨Nat.zero_le _, Nat.zero_le _⟩
theorem RemapMerges_pure {ca cb : List ByteArray} {ra rb : List S48} (hsa : StrsOk ca) (hsb : StrsOk cb) : ∃ k, signalbenchlaw12_RemapMerges.f k ca ra cb rb = some true := by
  refine Ev.rounds (Ev.bind lives12_ev (Ev.congr (fun k => if_pos rfl) ?_))
  have hj : Ev (fun k => signalbenchlaw12_RemapMerges.j0 k true ca ra cb rb) true := Ev.step (f := fun _ => some true) (fun k => by simp only [signalbenchlaw12_RemapMerges.j0]; rfl) (Ev.now _)
  rw [few12_eq]
  refine Ev.congr (fun k => Option.bind_some _ _) ?_
  by_cases c : fewV12 ca ra = true
  · have hf : ca.length ≤ 60 ∧ ra.length ≤ 500 := of_decide_eq_true c
    refine Ev.congr (fun k => if_pos c) ?_
    rw [few12_eq]
    refine Ev.congr (fun k => Option.bind_some _ _) ?_
    by_cases c' : fewV12 cb rb = true
    · have hf' : cb.length ≤ 60 ∧ rb.length ≤ 500 := of_decide_eq_true c'
      have hl := mrgV_len ca ra cb rb
      rw [c']
      refine Ev.step (f := fun k => (remap_Merge.f k ca ra cb rb).bind fun bt518 => ((signalbenchref12_Merge.f k ca ra cb rb).bind fun bt526 => (if bt518.2.2 = bt526.2.2 then ((signalbenchlaw12_equal.f k bt518.1 bt518.2.1 bt526.1 bt526.2.1).bind fun t534 => (some t534)) else (some false)))) (fun k => by
        simp only [signalbenchlaw12_RemapMerges.j0]
        rw [if_neg (by decide)]) (Ev.bind (Merge_ev hsa hsb (by omega) (by omega) (by omega) (by omega)) (Ev.bind (refMerge_ev hsa hsb (by omega) (by omega) (by omega) (by omega)) (Ev.congr (fun k => if_pos rfl) (Ev.bind (equal12_ev _ _ (by omega) (by omega)) (Ev.now _)))))
    · rw [show fewV12 cb rb = false by simpa using c']
      exact hj
  · exact Ev.congr (fun k => if_neg c) hj
end Go.Proofs.Ytllpgidmdomfcaa
