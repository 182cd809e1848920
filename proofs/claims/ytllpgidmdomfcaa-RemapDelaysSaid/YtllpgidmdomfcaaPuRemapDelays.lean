/- The law RemapDelays as a plain statement on numbers and lists: with enough rounds it answers true; conditions: each number is one of its kind, no list or string is longer than its memory allows. -/
import Derived.Laws.BitsAllLaws
import Derived.WalkKit
import Derived.Test.YtllpgidmdomfcaaWMore
import Derived.Laws.Strings
import Derived.Test.YtllpgidmdomfcaaQx0
import Derived.Test.YtllpgidmdomfcaaQx2
import Derived.Test.YtllpgidmdomfcaaQx3
import Derived.Test.YtllpgidmdomfcaaQx4
import Derived.Test.YtllpgidmdomfcaaQx5
import Derived.Test.YtllpgidmdomfcaaQx6
import Derived.Test.YtllpgidmdomfcaaQx7
import Derived.Test.YtllpgidmdomfcaaQx15
import Derived.Test.YtllpgidmdomfcaaQx16
import Derived.Test.YtllpgidmdomfcaaQx17
import Derived.Test.YtllpgidmdomfcaaQx18
import Derived.Test.YtllpgidmdomfcaaQx21
import Derived.Test.YtllpgidmdomfcaaQx22
import Derived.Test.YtllpgidmdomfcaaQx33
import Derived.Test.YtllpgidmdomfcaaQx35
namespace Go.Proofs.Ytllpgidmdomfcaa
open Go Go.RowKit Go.Proofs.YtllpgidmdomfcaaW.PrintWords Go.Proofs.YtllpgidmdomfcaaW.PrintLast Go.Proofs.Ytllpgidmdomfcaa.Q
set_option linter.unusedVariables false
theorem w64 {x : Int} (h0 : -9223372036854775808 ≤ x) (h1 : x ≤ 9223372036854775807) : wrap64 x = x := by
  unfold wrap64
  omega
theorem succ_mid {α : Type} (pre : List α) (x : α) (h : pre.length ≤ 9223372036854775806) : wrap64 ((pre.length : Int) + 1) = ((pre ++ [x]).length : Int) := by
  rw [w64 (by omega) (by omega)]
  simp
theorem wrap01 : wrap64 (0 + 1) = 1 := by
  unfold wrap64
  rfl
theorem mid_snoc {α : Type} (pre post : List α) (x : α) : pre ++ x :: post = (pre ++ [x]) ++ post := by simp
def sm : List S48 → Int
  | [] => 0
  | x :: l => x.f1 + sm l
def RunsOk (l : List S48) : Prop := ∀ x ∈ l, (x.f0 = 0 ∨ x.f0 = 1) ∧ 1 ≤ x.f1
theorem rd_mid (pre post : List S48) (x : S48) : rd_T48 (pre ++ x :: post) (pre.length : Int) = x := by simp [rd_T48, List.getD]
theorem mid_lt (pre post : List S48) (x : S48) : (pre.length : Int) < ((pre ++ x :: post).length : Int) := by
  simp only [List.length_append, List.length_cons]
  omega
theorem sm_append : ∀ (a b : List S48), sm (a ++ b) = sm a + sm b
  | [], b => by simp [sm]
  | x :: a, b => by
    have := sm_append a b
    simp only [List.cons_append, sm]
    omega
theorem RunsOk.cons {x : S48} {l : List S48} (h : RunsOk (x :: l)) : ((x.f0 = 0 ∨ x.f0 = 1) ∧ 1 ≤ x.f1) ∧ RunsOk l := ⟨h x (by simp), fun y hy => h y (by simp [hy])⟩
theorem RunsOk.left {a b : List S48} (h : RunsOk (a ++ b)) : RunsOk a := fun x hx => h x (List.mem_append_left _ hx)
def jnc (x : S48) : List S48 → List S48
  | [] => [x]
  | y :: l => if x.f0 = y.f0 then jnc ⟨x.f0, x.f1 + y.f1⟩ l else x :: jnc y l
def jn : List S48 → List S48
  | [] => []
  | x :: l => jnc x l
theorem last_at (o : List S48) (x : S48) (h : o.length ≤ 9223372036854775806) : wrap64 (((o ++ [x]).length : Int) - 1) = (o.length : Int) := by
  rw [w64 (by simp only [List.length_append, List.length_cons, List.length_nil]; omega) (by simp only [List.length_append, List.length_cons, List.length_nil]; omega)]
  simp
theorem rd_last (o : List S48) (x : S48) : rd_T48 (o ++ [x]) (o.length : Int) = x := rd_mid o [] x
theorem set_last (o : List S48) (x y : S48) : (o ++ [x]).set ((o.length : Int)).toNat y = o ++ [y] := by
  rw [Int.toNat_natCast, List.set_append_right _ _ (Nat.le_refl _), Nat.sub_self]
  rfl
/-- No two runs of one level side by side: behind a run of level p. -/
def apartF : Int → List S48 → Prop
  | _, [] => True
  | p, x :: l => p ≠ x.f0 ∧ apartF x.f0 l
def apart : List S48 → Prop
  | [] => True
  | x :: l => apartF x.f0 l
theorem jnc_head : ∀ (l : List S48) (x : S48), ∃ t m, jnc x l = ⟨x.f0, t⟩ :: m
  | [], x => ⟨x.f1, [], rfl⟩
  | y :: l, x => by
    unfold jnc
    split
    · exact jnc_head l ⟨x.f0, x.f1 + y.f1⟩
    · exact ⟨x.f1, _, rfl⟩
theorem jnc_apart : ∀ (l : List S48) (x : S48), apart (jnc x l)
  | [], x => trivial
  | y :: l, x => by
    unfold jnc
    split
    · exact jnc_apart l _
    · rename_i c
      obtain ⟨t, m, e⟩ := jnc_head l y
      have h := jnc_apart l y
      rw [e] at h ⊢
      exact ⟨c, h⟩
theorem jnc_of_apart : ∀ (l : List S48) (x : S48), apartF x.f0 l → jnc x l = x :: l
  | [], x, _ => rfl
  | y :: l, x, h => by
    unfold jnc
    rw [if_neg h.1, jnc_of_apart l y h.2]
theorem jn_of_apart {l : List S48} (h : apart l) : jn l = l := by
  cases l with
  | nil => rfl
  | cons x l => exact jnc_of_apart l x h
def wd (c : Int) : Bool := if 97 ≤ c ∧ c ≤ 122 then true else if 48 ≤ c ∧ c ≤ 57 then true else if c = 95 then true else false
def wAll (s : ByteArray) : Nat → Nat → Bool
  | 0, _ => true
  | m + 1, i => if wd (bt s (i : Int)) = true then wAll s m (i + 1) else false
def nmOk (s : ByteArray) : Bool := if s.size = 0 then false else if 16 < s.size then false else if 97 ≤ bt s 0 ∧ bt s 0 ≤ 122 then wAll s s.size 0 else false
theorem w32 {x : Int} (h0 : 0 ≤ x) (h1 : x ≤ 255) : wrap32 x = x := by
  unfold wrap32
  omega
theorem nil_iff (s : ByteArray) : s.toList = ([] : List UInt8) ↔ s.size = 0 := by
  rw [ByteArray.toList_eq, ← List.length_eq_zero_iff, data_length]
theorem lex_letter_eq (c : Int) : lex_letter.f c = some (decide (97 ≤ c ∧ c ≤ 122)) := by
  unfold lex_letter.f
  by_cases h : 97 ≤ c <;> simp [h]
theorem lex_word_eq (c : Int) : lex_word.f c = some (wd c) := by
  unfold lex_word.f lex_digit.f wd
  rw [lex_letter_eq]
  by_cases h : 97 ≤ c ∧ c ≤ 122
  · simp [h]
  · by_cases h1 : 48 ≤ c
    · by_cases h2 : c ≤ 57
      · simp [h, h1, h2]
      · by_cases h3 : c = 95 <;> simp [h, h1, h2, h3]
    · by_cases h3 : c = 95 <;> simp [h, h1, h3]
theorem lex_Name_l0 (s : ByteArray) (hs : s.size ≤ 140737488351232) : ∀ (m i : Nat), i + m = s.size → Ev (fun k => lex_Name.l0 k s (s.size : Int) (i : Int)) (wAll s m i)
  | 0, i, h => by
    refine Ev.step (f := fun _ => some true) (fun k => ?_) (Ev.now _)
    simp only [lex_Name.l0]
    rw [if_neg (by omega)]
  | m + 1, i, h => by
    have hb := bt_range s (i : Int)
    have hst : ∀ k, lex_Name.l0 (k + 1) s (s.size : Int) (i : Int) = if wd (bt s (i : Int)) = true then lex_Name.l0 k s (s.size : Int) ((i + 1 : Nat) : Int) else some false := by
      intro k
      simp only [lex_Name.l0]
      rw [if_pos (by omega), if_pos (by omega), if_pos (by omega), lex_word_eq, w32 hb.1 hb.2, Option.bind_some, w64 (by omega) (by omega)]
      rfl
    unfold wAll
    by_cases c : wd (bt s (i : Int)) = true
    · rw [if_pos c]
      exact Ev.step (fun k => (hst k).trans (if_pos c)) (lex_Name_l0 s hs m (i + 1) (by omega))
    · rw [if_neg c]
      exact Ev.step (fun k => (hst k).trans (if_neg c)) (Ev.now _)
theorem lex_Name_ev (s : ByteArray) (hs : s.size ≤ 140737488351232) : Ev (fun k => lex_Name.f k s) (nmOk s) := by
  have hb := bt_range s 0
  have hj : Ev (fun k => lex_Name.j0 k s true) false := Ev.step (f := fun _ => some false) (fun k => by simp only [lex_Name.j0]; rfl) (Ev.now _)
  unfold nmOk
  by_cases h0 : s.size = 0
  · rw [if_pos h0]
    refine Ev.congr (fun k => ?_) hj
    unfold lex_Name.f
    rw [if_pos ((nil_iff s).2 h0)]
  · rw [if_neg h0]
    have hn : ¬ s.toList = [] := fun h => h0 ((nil_iff s).1 h)
    by_cases h1 : 16 < s.size
    · rw [if_pos h1]
      refine Ev.congr (fun k => ?_) hj
      unfold lex_Name.f
      rw [if_neg hn, if_pos (by omega)]
    · rw [if_neg h1]
      have e : ∀ k, lex_Name.f k s = lex_Name.j0 k s (!(decide (97 ≤ bt s 0 ∧ bt s 0 ≤ 122))) := by
        intro k
        unfold lex_Name.f
        rw [if_neg hn, if_neg (by omega), if_pos (by omega), lex_letter_eq, w32 hb.1 hb.2]
        rfl
      refine Ev.congr e ?_
      by_cases h2 : 97 ≤ bt s 0 ∧ bt s 0 ≤ 122
      · rw [if_pos h2, decide_eq_true h2]
        refine Ev.step (fun k => ?_) (lex_Name_l0 s hs s.size 0 (by omega))
        simp only [lex_Name.j0]
        rw [if_neg (by decide)]
        rfl
      · rw [if_neg h2, decide_eq_false h2]
        exact hj
def StrsOk (l : List ByteArray) : Prop := ∀ s ∈ l, s.size ≤ 140737488351232
def nmA : List ByteArray → Bool
  | [] => true
  | s :: l => if nmOk s = true then nmA l else false
theorem rds_mid (pre post : List ByteArray) (x : ByteArray) : rdOf ByteArray.empty (pre ++ x :: post) (pre.length : Int) = x := by simp [rdOf, List.getD]
theorem mids_lt (pre post : List ByteArray) (x : ByteArray) : (pre.length : Int) < ((pre ++ x :: post).length : Int) := by
  simp only [List.length_append, List.length_cons]
  omega
/-- The first place of a name, or -1. -/
def ixS (s : ByteArray) : Nat → List ByteArray → Int
  | _, [] => -1
  | n, t :: l => if s.toList = t.toList then (n : Int) else ixS s (n + 1) l
theorem Index_l0 (s : ByteArray) : ∀ (post pre : List ByteArray), (pre ++ post).length ≤ 140737488351232 →
    Ev (fun k => slices_Index_string.l0 k (pre ++ post) s ((pre ++ post).length : Int) (pre.length : Int)) (ixS s pre.length post)
  | [], pre, hl => by
    refine Ev.step (f := fun _ => some (-1)) (fun k => ?_) (Ev.now _)
    simp only [slices_Index_string.l0]
    rw [if_neg (by simp)]
  | x :: post, pre, hl => by
    have hlt := mids_lt pre post x
    have hn : pre.length ≤ 9223372036854775806 := by
      simp only [List.length_append, List.length_cons] at hl
      omega
    have hst : ∀ k, slices_Index_string.l0 (k + 1) (pre ++ x :: post) s ((pre ++ x :: post).length : Int) (pre.length : Int) = if s.toList = x.toList then some (pre.length : Int) else slices_Index_string.l0 k (pre ++ x :: post) s ((pre ++ x :: post).length : Int) ((pre ++ [x]).length : Int) := by
      intro k
      simp only [slices_Index_string.l0]
      rw [rds_mid, if_pos hlt, if_pos (by omega), if_pos hlt, succ_mid _ _ hn]
    unfold ixS
    by_cases c : s.toList = x.toList
    · rw [if_pos c]
      exact Ev.step (fun k => (hst k).trans (if_pos c)) (Ev.now _)
    · rw [if_neg c]
      have ih := Index_l0 s post (pre ++ [x]) (by simpa using hl)
      rw [← mid_snoc] at ih
      have e : (pre ++ [x]).length = pre.length + 1 := by simp
      rw [e] at ih
      refine Ev.step (fun k => (hst k).trans (if_neg c)) ?_
      rw [e]
      exact ih
theorem Index_ev (l : List ByteArray) (s : ByteArray) (hl : l.length ≤ 140737488351232) : Ev (fun k => slices_Index_string.f k l s) (ixS s 0 l) := Ev.congr (fun k => rfl) (Index_l0 s l [] (by simpa using hl))
theorem Contains_ev (l : List ByteArray) (s : ByteArray) (hl : l.length ≤ 140737488351232) : Ev (fun k => slices_Contains_string.f k l s) (decide (ixS s 0 l ≥ 0)) := Ev.bind (Index_ev l s hl) (Ev.now _)
def dupS : List ByteArray → List ByteArray → Bool
  | _, [] => false
  | pre, x :: post => if ixS x 0 pre ≥ 0 then true else dupS (pre ++ [x]) post
def nmsV (l : List ByteArray) : Int := if 16 < l.length then 6 else if l.length = 0 then 1 else if nmA l = true then (if dupS [] l = true then 9 else 0) else 4
theorem checkNames_l1 : ∀ (post pre : List ByteArray), (pre ++ post).length ≤ 140737488351232 →
    Ev (fun k => capture_checkNames.l1 k (pre ++ post) (pre ++ post) ((pre ++ post).length : Int) (pre.length : Int)) (if dupS pre post = true then 9 else 0)
  | [], pre, hl => by
    refine Ev.step (f := fun _ => some 0) (fun k => ?_) ?_
    · simp only [capture_checkNames.l1]
      rw [if_neg (by simp)]
    · rw [show (if dupS pre [] = true then (9 : Int) else 0) = 0 from rfl]
      exact Ev.now _
  | x :: post, pre, hl => by
    have hlt := mids_lt pre post x
    have hn : pre.length ≤ 9223372036854775806 := by
      simp only [List.length_append, List.length_cons] at hl
      omega
    have hp : pre.length ≤ 140737488351232 := by
      simp only [List.length_append, List.length_cons] at hl
      omega
    have hst : ∀ k, capture_checkNames.l1 (k + 1) (pre ++ x :: post) (pre ++ x :: post) ((pre ++ x :: post).length : Int) (pre.length : Int) = (slices_Contains_string.f k pre x).bind fun t111 => (if t111 = true then (some 9) else (capture_checkNames.l1 k (pre ++ x :: post) (pre ++ x :: post) ((pre ++ x :: post).length : Int) ((pre ++ [x]).length : Int))) := by
      intro k
      simp only [capture_checkNames.l1]
      rw [rds_mid, if_pos hlt, if_pos (by omega), if_pos hlt, if_pos (by omega), succ_mid _ _ hn, Int.toNat_natCast, List.take_left' rfl]
    refine Ev.step hst (Ev.bind (Contains_ev pre x hp) ?_)
    unfold dupS
    by_cases c : ixS x 0 pre ≥ 0
    · rw [if_pos c, decide_eq_true c]
      exact Ev.congr (fun k => if_pos rfl) (Ev.now _)
    · rw [if_neg c, decide_eq_false c]
      have ih := checkNames_l1 post (pre ++ [x]) (by simpa using hl)
      rw [← mid_snoc] at ih
      exact Ev.congr (fun k => if_neg (by decide)) ih
theorem checkNames_l0 : ∀ (post pre : List ByteArray) (R : Int), StrsOk post → (pre ++ post).length ≤ 140737488351232 → Ev (fun k => capture_checkNames.l1 k (pre ++ post) (pre ++ post) ((pre ++ post).length : Int) 0) R →
    Ev (fun k => capture_checkNames.l0 k (pre ++ post) (pre ++ post) ((pre ++ post).length : Int) (pre.length : Int)) (if nmA post = true then R else 4)
  | [], pre, R, hs, hl, hR => by
    refine Ev.step (fun k => ?_) (Ev.congr (fun k => rfl) hR)
    simp only [capture_checkNames.l0]
    rw [if_neg (by simp)]
  | x :: post, pre, R, hs, hl, hR => by
    have hlt := mids_lt pre post x
    have hn : pre.length ≤ 9223372036854775806 := by
      simp only [List.length_append, List.length_cons] at hl
      omega
    have hst : ∀ k, capture_checkNames.l0 (k + 1) (pre ++ x :: post) (pre ++ x :: post) ((pre ++ x :: post).length : Int) (pre.length : Int) = (lex_Name.f k x).bind fun t108 => (if t108 = true then (capture_checkNames.l0 k (pre ++ x :: post) (pre ++ x :: post) ((pre ++ x :: post).length : Int) ((pre ++ [x]).length : Int)) else (some 4)) := by
      intro k
      simp only [capture_checkNames.l0]
      rw [rds_mid, if_pos hlt, if_pos (by omega), if_pos hlt, succ_mid _ _ hn]
    refine Ev.step hst (Ev.bind (lex_Name_ev x (hs x (by simp))) ?_)
    unfold nmA
    by_cases c : nmOk x = true
    · rw [if_pos c, c]
      have ih := checkNames_l0 post (pre ++ [x]) R (fun y hy => hs y (by simp [hy])) (by simpa using hl) (by rw [← mid_snoc]; exact hR)
      rw [← mid_snoc] at ih
      exact Ev.congr (fun k => if_pos rfl) ih
    · rw [if_neg c, Bool.eq_false_iff.2 c]
      exact Ev.congr (fun k => if_neg (by decide)) (Ev.now _)
theorem checkNames_ev {l : List ByteArray} (hs : StrsOk l) (hl : l.length ≤ 140737488351232) (h16 : l.length ≤ 16) : Ev (fun k => capture_checkNames.f k l) (nmsV l) := by
  unfold nmsV
  rw [if_neg (by omega)]
  by_cases c : l.length = 0
  · rw [if_pos c]
    refine Ev.congr (fun k => ?_) (Ev.now _)
    unfold capture_checkNames.f
    rw [if_pos (by omega)]
  · rw [if_neg c]
    refine Ev.congr (fun k => ?_) (checkNames_l0 l [] _ hs (by simpa using hl) (checkNames_l1 l [] (by simpa using hl)))
    unfold capture_checkNames.f
    rw [if_neg (by omega)]
    rfl
/-- Levels from 0 to m, and at least one tick each. -/
def RunsM (m : Int) (l : List S48) : Prop := ∀ x ∈ l, 0 ≤ x.f0 ∧ x.f0 ≤ m ∧ 1 ≤ x.f1
def rOk (m : Int) : Int → List S48 → Bool
  | left, [] => true
  | left, x :: l => if 0 ≤ x.f0 ∧ x.f0 ≤ m ∧ 1 ≤ x.f1 ∧ x.f1 ≤ left then rOk m (left - x.f1) l else false
theorem RunsM.cons {m : Int} {x : S48} {l : List S48} (h : RunsM m (x :: l)) : (0 ≤ x.f0 ∧ x.f0 ≤ m ∧ 1 ≤ x.f1) ∧ RunsM m l := ⟨h x (by simp), fun y hy => h y (by simp [hy])⟩
theorem smM_nonneg {m : Int} : ∀ {l : List S48}, RunsM m l → 0 ≤ sm l
  | [], _ => Int.le_refl _
  | x :: l, h => by
    have h1 := h.cons
    have h2 := smM_nonneg h1.2
    simp only [sm]
    omega
theorem rOk_iff {m : Int} : ∀ {l : List S48} {left : Int}, 0 ≤ left → (rOk m left l = true ↔ RunsM m l ∧ sm l ≤ left)
  | [], left, h => by simp [rOk, RunsM, sm, h]
  | x :: l, left, h => by
    unfold rOk
    by_cases c : 0 ≤ x.f0 ∧ x.f0 ≤ m ∧ 1 ≤ x.f1 ∧ x.f1 ≤ left
    · rw [if_pos c, rOk_iff (l := l) (by omega)]
      simp only [RunsM, sm, List.mem_cons, forall_eq_or_imp]
      constructor
      · rintro ⟨h1, h2⟩
        exact ⟨⟨⟨c.1, c.2.1, c.2.2.1⟩, h1⟩, by omega⟩
      · rintro ⟨⟨h1, h2⟩, h3⟩
        exact ⟨h2, by omega⟩
    · rw [if_neg c]
      simp only [Bool.false_eq_true, false_iff]
      rintro ⟨h1, h2⟩
      have h3 := h1.cons
      have h4 := smM_nonneg h3.2
      simp only [sm] at h2
      exact c ⟨h3.1.1, h3.1.2.1, h3.1.2.2, by omega⟩
def mk (l : List ByteArray) : Int := wrap64 ((shl .i64 1 (l.length : Int)) - 1)
def chkV (l : List ByteArray) (r : List S48) : Int := if 262144 < r.length then 6 else if nmsV l = 0 then (if rOk (mk l) 1099511627776 r = true then 0 else 2) else nmsV l
theorem chk_0 {l : List ByteArray} {r : List S48} (h : chkV l r = 0) : r.length ≤ 262144 ∧ nmsV l = 0 ∧ RunsM (mk l) r ∧ sm r ≤ 1099511627776 := by
  unfold chkV at h
  by_cases c : 262144 < r.length
  · rw [if_pos c] at h
    omega
  · rw [if_neg c] at h
    by_cases c1 : nmsV l = 0
    · rw [if_pos c1] at h
      by_cases c2 : rOk (mk l) 1099511627776 r = true
      · exact ⟨by omega, c1, (rOk_iff (by omega)).1 c2⟩
      · rw [if_neg c2] at h
        omega
    · rw [if_neg c1] at h
      exact absurd h c1
theorem Check_l0 (m : Int) : ∀ (post pre : List S48) (left : Int), 0 ≤ left → left ≤ 1099511627776 → (pre ++ post).length ≤ 140737488351232 →
    Ev (fun k => capture_Check.l0 k m left (pre ++ post) ((pre ++ post).length : Int) (pre.length : Int)) (if rOk m left post = true then 0 else 2)
  | [], pre, left, h0, h1, hl => by
    rw [show (if rOk m left [] = true then (0 : Int) else 2) = 0 from rfl]
    refine Ev.step (f := fun _ => some 0) (fun k => ?_) (Ev.now _)
    simp only [capture_Check.l0]
    rw [if_neg (by simp)]
  | x :: post, pre, left, h0, h1, hl => by
    have hlt := mid_lt pre post x
    have hn : pre.length ≤ 9223372036854775806 := by
      simp only [List.length_append, List.length_cons] at hl
      omega
    unfold rOk
    by_cases c : 0 ≤ x.f0 ∧ x.f0 ≤ m ∧ 1 ≤ x.f1 ∧ x.f1 ≤ left
    · have ih := Check_l0 m post (pre ++ [x]) (left - x.f1) (by omega) (by omega) (by simpa using hl)
      rw [← mid_snoc] at ih
      rw [if_pos c]
      refine Ev.step (fun k => ?_) ih
      simp only [capture_Check.l0]
      rw [rd_mid, if_pos hlt, if_pos (by omega), if_pos hlt, if_neg (by omega), if_neg (by omega), if_neg (by omega), if_neg (by omega), w64 (by omega) (by omega), succ_mid _ _ hn]
    · rw [if_neg c, show (if false = true then (0 : Int) else 2) = 2 from rfl]
      refine Ev.step (f := fun _ => some 2) (fun k => ?_) (Ev.now _)
      simp only [capture_Check.l0]
      rw [rd_mid, if_pos hlt, if_pos (by omega), if_pos hlt]
      by_cases c1 : x.f0 < 0
      · rw [if_pos c1]
      · rw [if_neg c1]
        by_cases c2 : x.f0 > m
        · rw [if_pos c2]
        · rw [if_neg c2]
          by_cases c3 : x.f1 < 1
          · rw [if_pos c3]
          · rw [if_neg c3, if_pos (by omega)]
theorem Check_ev {l : List ByteArray} {r : List S48} (hs : StrsOk l) (hl : l.length ≤ 140737488351232) (hr : r.length ≤ 140737488351232) : Ev (fun k => capture_Check.f k l r) (chkV l r) := by
  have hj : Ev (fun k => capture_Check.j0 k true l r) 6 := Ev.step (f := fun _ => some 6) (fun k => by simp only [capture_Check.j0]; rfl) (Ev.now _)
  by_cases c : 16 < l.length
  · have e : chkV l r = 6 := by
      have e1 : nmsV l = 6 := by
        unfold nmsV
        rw [if_pos c]
      unfold chkV
      rw [e1]
      by_cases c1 : 262144 < r.length
      · rw [if_pos c1]
      · rw [if_neg c1]
        rfl
    rw [e]
    refine Ev.congr (fun k => ?_) hj
    unfold capture_Check.f
    rw [if_pos (by omega)]
  · have e : ∀ k, capture_Check.f k l r = capture_Check.j0 k (decide ((r.length : Int) > 262144)) l r := by
      intro k
      unfold capture_Check.f
      rw [if_neg (by omega)]
    refine Ev.congr e ?_
    unfold chkV
    by_cases c1 : 262144 < r.length
    · rw [if_pos c1, decide_eq_true (by omega)]
      exact hj
    · rw [if_neg c1, decide_eq_false (by omega)]
      refine Ev.step (f := fun k => (capture_checkNames.f k l).bind fun t113 => (if t113 = 0 then (capture_Check.l0 k (mk l) 1099511627776 r (r.length : Int) 0) else (some t113))) (fun k => ?_) (Ev.bind (checkNames_ev hs hl (by omega)) ?_)
      · simp only [capture_Check.j0]
        rw [if_neg (by decide)]
        rfl
      · by_cases c2 : nmsV l = 0
        · rw [if_pos c2]
          exact Ev.congr (fun k => if_pos c2) (Check_l0 (mk l) r [] 1099511627776 (by omega) (by omega) (by simpa using hr))
        · rw [if_neg c2]
          exact Ev.congr (fun k => if_neg c2) (Ev.now _)
theorem long_l0 {m : Int} : ∀ (post pre : List S48) (s : Int), 0 ≤ s → s + sm post ≤ 4611686018427387904 → RunsM m post → (pre ++ post).length ≤ 140737488351232 →
    Ev (fun k => capture_long.l0 k s (pre ++ post) ((pre ++ post).length : Int) (pre.length : Int)) (s + sm post)
  | [], pre, s, h0, h1, hw, hl => by
    refine Ev.step (f := fun _ => some s) (fun k => ?_) ?_
    · simp only [capture_long.l0]
      rw [if_neg (by simp)]
    · simp only [sm, Int.add_zero]
      exact Ev.now _
  | x :: post, pre, s, h0, h1, hw, hl => by
    have hx := hw.cons
    have hs := smM_nonneg hx.2
    simp only [sm] at h1
    have hlt := mid_lt pre post x
    have hn : pre.length ≤ 9223372036854775806 := by
      simp only [List.length_append, List.length_cons] at hl
      omega
    have ih := long_l0 post (pre ++ [x]) (s + x.f1) (by omega) (by omega) hx.2 (by simpa using hl)
    rw [← mid_snoc] at ih
    have e1 : s + sm (x :: post) = s + x.f1 + sm post := by
      simp only [sm]
      omega
    rw [e1]
    refine Ev.step (fun k => ?_) ih
    simp only [capture_long.l0]
    rw [rd_mid, if_pos hlt, if_pos (by omega), if_pos hlt, w64 (x := s + x.f1) (by omega) (by omega), succ_mid _ _ hn]
theorem long_ev {m : Int} {r : List S48} (h : RunsM m r) (hs : sm r ≤ 1099511627776) (hr : r.length ≤ 140737488351232) : Ev (fun k => capture_long.f k r) (sm r) := by
  have h := long_l0 r [] 0 (by omega) (by omega) h (by simpa using hr)
  rw [Int.zero_add] at h
  exact Ev.congr (fun k => rfl) h
def longC (l : List ByteArray) (r : List S48) : Int := if chkV l r = 0 then sm r else 0
theorem Long_ev {l : List ByteArray} {r : List S48} (hs : StrsOk l) (hl : l.length ≤ 140737488351232) (hr : r.length ≤ 140737488351232) : Ev (fun k => capture_Long.f k l r) (longC l r) := by
  unfold longC
  refine Ev.bind (Check_ev hs hl hr) ?_
  by_cases c : chkV l r = 0
  · have h := chk_0 c
    rw [if_pos c]
    exact Ev.congr (fun k => if_pos c) (Ev.bind (long_ev h.2.2.1 h.2.2.2 hr) (Ev.now _))
  · rw [if_neg c]
    exact Ev.congr (fun k => if_neg c) (Ev.now _)
/-- A run put behind runs. -/
def putR (o : List S48) (v t : Int) : List S48 :=
  match o.getLast? with
  | some y => if y.f0 = v then o.dropLast ++ [(⟨y.f0, y.f1 + t⟩ : S48)] else o ++ [(⟨v, t⟩ : S48)]
  | none => [(⟨v, t⟩ : S48)]
theorem putR_nil (v t : Int) : putR [] v t = [⟨v, t⟩] := rfl
theorem putR_same (o : List S48) (y : S48) (t : Int) : putR (o ++ [y]) y.f0 t = o ++ [⟨y.f0, y.f1 + t⟩] := by
  simp [putR]
theorem putR_new (o : List S48) (y : S48) {v t : Int} (h : ¬ y.f0 = v) : putR (o ++ [y]) v t = o ++ [y] ++ [⟨v, t⟩] := by
  simp [putR, h]
theorem snoc_cases {α : Type} (o : List α) : o = [] ∨ ∃ q y, o = q ++ [y] := by
  rcases List.eq_nil_or_concat o with h | ⟨q, y, h⟩
  · exact .inl h
  · exact .inr ⟨q, y, by simpa using h⟩
theorem join_eq {o : List S48} {v t : Int} (ho : o.length < 8796093022208) (h0 : 0 ≤ t) (hs : ∀ y ∈ o, 0 ≤ y.f1 ∧ y.f1 + t ≤ 9223372036854775807) : capture_join.f o v t = some (putR o v t) := by
  rcases snoc_cases o with rfl | ⟨q, y, rfl⟩
  · unfold capture_join.f
    rw [if_neg (by simp), if_pos (by simp)]
    rfl
  · have hy := hs y (by simp)
    have hq : q.length ≤ 9223372036854775806 := by
      simp only [List.length_append, List.length_cons, List.length_nil] at ho
      omega
    have hlt : (q.length : Int) < ((q ++ [y]).length : Int) := mid_lt q [] y
    unfold capture_join.f
    rw [last_at q y hq, rd_last, if_pos (by omega), if_pos (by omega), if_pos hlt]
    by_cases c : y.f0 = v
    · rw [if_pos c, set_last, w64 (by omega) (by omega), ← c, putR_same]
    · rw [if_neg c, if_pos ho, putR_new q y c]
theorem putR_sm (o : List S48) (v t : Int) : sm (putR o v t) = sm o + t := by
  rcases snoc_cases o with rfl | ⟨q, y, rfl⟩
  · simp [putR_nil, sm]
  · by_cases c : y.f0 = v
    · rw [← c, putR_same]
      simp only [sm_append, sm]
      omega
    · rw [putR_new q y c]
      simp only [sm_append, sm]
      omega
theorem putR_len (o : List S48) (v t : Int) : (putR o v t).length ≤ o.length + 1 := by
  rcases snoc_cases o with rfl | ⟨q, y, rfl⟩
  · simp [putR_nil]
  · by_cases c : y.f0 = v
    · rw [← c, putR_same]
      simp
    · rw [putR_new q y c]
      simp
theorem putR_ok {m : Int} {o : List S48} {v t : Int} (h : RunsM m o) (hv : 0 ≤ v ∧ v ≤ m) (ht : 1 ≤ t) : RunsM m (putR o v t) := by
  rcases snoc_cases o with rfl | ⟨q, y, rfl⟩
  · intro x hx
    rw [putR_nil, List.mem_singleton] at hx
    subst hx
    exact ⟨hv.1, hv.2, ht⟩
  · have hy := h y (by simp)
    by_cases c : y.f0 = v
    · rw [← c, putR_same]
      intro x hx
      rcases List.mem_append.1 hx with hx | hx
      · exact h x (by simp [hx])
      · rw [List.mem_singleton] at hx
        subst hx
        exact ⟨hy.1, hy.2.1, by show 1 ≤ y.f1 + t; omega⟩
    · rw [putR_new q y c]
      intro x hx
      rcases List.mem_append.1 hx with hx | hx
      · exact h x hx
      · rw [List.mem_singleton] at hx
        subst hx
        exact ⟨hv.1, hv.2, ht⟩
/-- Each run has at most the sum of all. -/
theorem le_sm {m : Int} : ∀ {l : List S48}, RunsM m l → ∀ y ∈ l, 0 ≤ y.f1 ∧ y.f1 ≤ sm l
  | [], h, y, hy => by simp at hy
  | x :: l, h, y, hy => by
    have hx := h.cons
    have h0 := smM_nonneg hx.2
    simp only [sm]
    rcases List.mem_cons.1 hy with rfl | hy
    · omega
    · have := le_sm hx.2 y hy
      omega
def cln : List S48 → List S48 → List S48
  | o, [] => o
  | o, x :: l => cln (putR o x.f0 x.f1) l
theorem cln_len : ∀ (l o : List S48), (cln o l).length ≤ o.length + l.length
  | [], o => by simp [cln]
  | x :: l, o => by
    have := cln_len l (putR o x.f0 x.f1)
    have := putR_len o x.f0 x.f1
    simp only [cln, List.length_cons]
    omega
theorem chkV_of {l : List ByteArray} {r : List S48} (h : r.length ≤ 262144) (h1 : nmsV l = 0) (h2 : RunsM (mk l) r) (h3 : sm r ≤ 1099511627776) : chkV l r = 0 := by
  unfold chkV
  rw [if_neg (by omega), if_pos h1, if_pos ((rOk_iff (by omega)).2 ⟨h2, h3⟩)]
def Tk (l : List S48) : Prop := ∀ y ∈ l, 1 ≤ y.f1
theorem Tk.cons {x : S48} {l : List S48} (h : Tk (x :: l)) : 1 ≤ x.f1 ∧ Tk l := ⟨h x (by simp), fun y hy => h y (by simp [hy])⟩
theorem lives12_ev : Ev (fun k => signalbenchlaw12_lives.f k) true := Ev.of (k := 60) (fun k => signalbenchlaw12_lives.mono k) (by decide +kernel)
def fewV12 (l : List ByteArray) (r : List S48) : Bool := decide (l.length ≤ 60 ∧ r.length ≤ 500)
theorem few12_eq (l : List ByteArray) (r : List S48) : signalbenchlaw12_few.f l r = some (fewV12 l r) := by
  unfold signalbenchlaw12_few.f fewV12
  by_cases c : l.length ≤ 60
  · rw [if_pos (by omega)]
    by_cases c1 : r.length ≤ 500
    · rw [decide_eq_true (by omega), decide_eq_true ⟨c, c1⟩]
    · rw [decide_eq_false (by omega), decide_eq_false (fun h => c1 h.2)]
  · rw [if_neg (by omega), decide_eq_false (fun h => c h.1)]
theorem equal12_l1 (l : List ByteArray) : ∀ (post pre : List S48), (pre ++ post).length ≤ 140737488351232 → Ev (fun k => signalbenchlaw12_equal.l1 k (pre.length : Int) l (pre ++ post) l (pre ++ post)) true
  | [], pre, hl => by
    refine Ev.step (f := fun _ => some true) (fun k => ?_) (Ev.now _)
    simp only [signalbenchlaw12_equal.l1]
    rw [if_neg (by simp)]
  | x :: post, pre, hl => by
    have hlt := mid_lt pre post x
    have hn : pre.length ≤ 9223372036854775806 := by
      simp only [List.length_append, List.length_cons] at hl
      omega
    have ih := equal12_l1 l post (pre ++ [x]) (by simpa using hl)
    rw [← mid_snoc] at ih
    refine Ev.step (fun k => ?_) ih
    simp only [signalbenchlaw12_equal.l1]
    rw [rd_mid, if_pos hlt, if_pos (by omega), if_pos hlt, if_neg (by simp), succ_mid _ _ hn]
theorem equal12_l0 (r : List S48) (hr : r.length ≤ 140737488351232) : ∀ (post pre : List ByteArray), (pre ++ post).length ≤ 140737488351232 → Ev (fun k => signalbenchlaw12_equal.l0 k (pre.length : Int) (pre ++ post) r (pre ++ post) r) true
  | [], pre, hl => by
    refine Ev.step (fun k => ?_) (equal12_l1 (pre ++ []) r [] (by simpa using hr))
    simp only [signalbenchlaw12_equal.l0]
    rw [if_neg (by simp)]
    rfl
  | x :: post, pre, hl => by
    have hlt := mids_lt pre post x
    have hn : pre.length ≤ 9223372036854775806 := by
      simp only [List.length_append, List.length_cons] at hl
      omega
    have ih := equal12_l0 r hr post (pre ++ [x]) (by simpa using hl)
    rw [← mid_snoc] at ih
    refine Ev.step (fun k => ?_) ih
    simp only [signalbenchlaw12_equal.l0]
    rw [if_pos hlt, if_pos (by omega), if_pos hlt, if_pos trivial, succ_mid _ _ hn]
theorem equal12_ev (l : List ByteArray) (r : List S48) (hl : l.length ≤ 140737488351232) (hr : r.length ≤ 140737488351232) : Ev (fun k => signalbenchlaw12_equal.f k l r l r) true := by
  refine Ev.congr (f := fun k => signalbenchlaw12_equal.j0 k ((r.length : Int) != (r.length : Int)) l r l r) (fun k => ?_) ?_
  · unfold signalbenchlaw12_equal.f
    rw [if_pos rfl]
  · rw [bne_self_eq_false]
    refine Ev.step (fun k => ?_) (equal12_l0 r hr l [] (by simpa using hl))
    simp only [signalbenchlaw12_equal.j0]
    rw [if_neg (by decide)]
    rfl
theorem rjoin (o : List S48) (v t : Int) : remap_join.f o v t = capture_join.f o v t := rfl
theorem clone_str {l : List ByteArray} (h : l.length ≤ 140737488351) : slices_Clone_string.f l = some l := by
  unfold slices_Clone_string.f
  rw [if_pos (by omega)]
theorem cln_jnc : ∀ (l q : List S48) (y : S48), cln (q ++ [y]) l = q ++ jnc y l
  | [], q, y => rfl
  | x :: l, q, y => by
    unfold cln jnc
    by_cases c : y.f0 = x.f0
    · rw [← c, putR_same, cln_jnc l q, if_pos rfl]
    · rw [putR_new q y c, cln_jnc l (q ++ [y]), if_neg c, List.append_assoc]
      rfl
theorem cln_jn (l : List S48) : cln [] l = jn l := by
  cases l with
  | nil => rfl
  | cons x l =>
    show cln (putR [] x.f0 x.f1) l = _
    rw [putR_nil]
    exact cln_jnc l [] _
theorem cln_sm : ∀ (l o : List S48), sm (cln o l) = sm o + sm l
  | [], o => by simp [cln, sm]
  | x :: l, o => by
    show sm (cln (putR o x.f0 x.f1) l) = _
    rw [cln_sm l, putR_sm, sm]
    omega
theorem cln_ok {m : Int} : ∀ (l : List S48) {o : List S48}, RunsM m o → RunsM m l → RunsM m (cln o l)
  | [], o, h, _ => h
  | x :: l, o, h, h1 => cln_ok l (putR_ok h ⟨h1.cons.1.1, h1.cons.1.2.1⟩ h1.cons.1.2.2) h1.cons.2
theorem nilM {m : Int} : RunsM m ([] : List S48) := fun x hx => by simp at hx
def delR (b : Int) : List S48 → List S48
  | [] => []
  | x :: l => (⟨x.f0, x.f1 + b⟩ : S48) :: l
def delV (l : List ByteArray) (r : List S48) (b : Int) : List ByteArray × List S48 × Int :=
  if chkV l r = 0 then (if b < 0 ∨ 1099511627776 - sm r < b ∨ (r = [] ∧ b ≠ 0) then ([], [], 2) else (l, cln [] (delR b r), 0)) else ([], [], chkV l r)
theorem Delay_l0 {m : Int} (b : Int) (l : List ByteArray) : ∀ (post pre o : List S48), pre ≠ [] → RunsM m o → RunsM m post → sm o + sm post ≤ 1099511627776 → (pre ++ post).length ≤ 262144 → o.length + post.length ≤ 262144 →
    Ev (fun k => remap_Delay.l0 k b (pre ++ post) ((pre ++ post).length : Int) (pre.length : Int) l o) (l, cln o post, 0)
  | [], pre, o, hp, h0, h1, hs, hl, ho => by
    refine Ev.step (f := fun _ => some (l, o, 0)) (fun k => ?_) (Ev.now _)
    simp only [remap_Delay.l0]
    rw [if_neg (by simp)]
  | x :: post, pre, o, hp, h0, h1, hs, hl, ho => by
    have hx := h1.cons
    have h2 := smM_nonneg hx.2
    have h3 := smM_nonneg h0
    simp only [sm] at hs
    simp only [List.length_cons] at ho
    have hlt := mid_lt pre post x
    have hn : pre.length ≤ 9223372036854775806 := by
      simp only [List.length_append, List.length_cons] at hl
      omega
    have hp0 : ¬ ((pre.length : Int) = 0) := by
      intro e
      exact hp (List.eq_nil_of_length_eq_zero (by omega))
    have hj : capture_join.f o x.f0 x.f1 = some (putR o x.f0 x.f1) := join_eq (by omega) (by omega) (fun y hy => by have := le_sm h0 y hy; omega)
    have ih := Delay_l0 b l post (pre ++ [x]) (putR o x.f0 x.f1) (by simp) (putR_ok h0 ⟨hx.1.1, hx.1.2.1⟩ hx.1.2.2) hx.2 (by rw [putR_sm]; omega) (by simpa using hl) (by have := putR_len o x.f0 x.f1; omega)
    rw [← mid_snoc] at ih
    refine Ev.step (fun k => ?_) ih
    simp only [remap_Delay.l0]
    rw [rd_mid, if_pos hlt, if_pos (Int.natCast_nonneg _), if_pos hlt, if_neg hp0, rjoin, hj, Option.bind_some, succ_mid _ _ hn]
theorem Delay_ev {l : List ByteArray} {r : List S48} {b : Int} (hs : StrsOk l) (hl : l.length ≤ 100000) (hr : r.length ≤ 140737488351232) (hb : -9223372036854775808 ≤ b ∧ b ≤ 9223372036854775807) : Ev (fun k => remap_Delay.f k l r b) (delV l r b) := by
  unfold delV
  refine Ev.bind (Check_ev hs (by omega) hr) ?_
  by_cases c : chkV l r = 0
  · rw [if_pos c]
    refine Ev.congr (fun k => if_pos c) ?_
    have h := chk_0 c
    have h0 := smM_nonneg h.2.2.1
    have eL : longC l r = sm r := if_pos c
    have hbad : Ev (fun k => remap_Delay.j0 k b true l r) ([], [], 2) := Ev.step (f := fun _ => some ([], [], 2)) (fun k => by simp only [remap_Delay.j0]; rfl) (Ev.now _)
    have hgood : (r = [] → b = 0) → 0 ≤ b → b ≤ 1099511627776 - sm r → Ev (fun k => remap_Delay.j0 k b false l r) (l, cln [] (delR b r), 0) := by
      intro hre hb0 hb1
      refine Ev.step (f := fun k => remap_Delay.l0 k b r (r.length : Int) 0 l []) (fun k => ?_) ?_
      · simp only [remap_Delay.j0]
        rw [if_neg (by decide), clone_str (by omega)]
        rfl
      · cases r with
        | nil =>
          refine Ev.step (f := fun _ => some (l, [], 0)) (fun k => ?_) (Ev.now _)
          simp only [remap_Delay.l0]
          rw [if_neg (by simp)]
        | cons x r =>
          have hx := h.2.2.1.cons
          have h2 := smM_nonneg hx.2
          have hsm := h.2.2.2
          have hlen := h.1
          simp only [sm] at hsm hb1
          have hj : capture_join.f [] x.f0 (x.f1 + b) = some (putR [] x.f0 (x.f1 + b)) := join_eq (by simp) (by omega) (fun y hy => by simp at hy)
          have ih := Delay_l0 (m := mk l) b l r [x] (putR [] x.f0 (x.f1 + b)) (by simp) (putR_ok nilM ⟨hx.1.1, hx.1.2.1⟩ (by omega)) hx.2 (by rw [putR_sm]; simp only [sm]; omega) (by simpa using hlen) (by rw [putR_nil]; simp only [List.length_cons, List.length_nil] at hlen ⊢; omega)
          refine Ev.step (fun k => ?_) ih
          have r0 : rd_T48 (x :: r) 0 = x := by simp [rd_T48, List.getD]
          simp only [remap_Delay.l0]
          rw [r0, if_pos (by simp only [List.length_cons]; omega), if_pos (by omega), if_pos (by simp only [List.length_cons]; omega), if_pos trivial, rjoin, w64 (x := x.f1 + b) (by omega) (by omega), hj, Option.bind_some, wrap01]
          rfl
    by_cases c1 : b < 0
    · rw [if_pos (.inl c1)]
      exact Ev.congr (fun k => if_pos c1) hbad
    · refine Ev.congr (fun k => if_neg c1) (Ev.bind (Long_ev hs (by omega) hr) ?_)
      rw [eL, w64 (x := 1099511627776 - sm r) (by omega) (by omega)]
      by_cases c2 : b > 1099511627776 - sm r
      · rw [if_pos (.inr (.inl c2))]
        exact Ev.congr (fun k => if_pos c2) hbad
      · refine Ev.congr (fun k => if_neg c2) ?_
        by_cases c3 : r = []
        · refine Ev.congr (fun k => if_pos (by rw [c3]; rfl)) ?_
          by_cases c4 : b = 0
          · rw [show (b != 0) = false by rw [c4]; rfl, if_neg (by omega)]
            exact hgood (fun _ => c4) (by omega) (by omega)
          · rw [show (b != 0) = true from bne_iff_ne.2 c4, if_pos (.inr (.inr ⟨c3, c4⟩))]
            exact hbad
        · refine Ev.congr (fun k => if_neg (fun e => c3 (List.eq_nil_of_length_eq_zero (by omega)))) ?_
          rw [if_neg (fun h9 => h9.elim c1 (fun h8 => h8.elim c2 (fun k => c3 k.1)))]
          exact hgood (fun e => absurd e c3) (by omega) (by omega)
  · rw [if_neg c]
    exact Ev.congr (fun k => if_neg c) (Ev.now _)
theorem del_del {x : S48} (n : Int) : ∀ (l : List S48) (x : S48), ∃ t m, jnc x l = (⟨x.f0, t⟩ : S48) :: m ∧ jnc ⟨x.f0, x.f1 + n⟩ l = (⟨x.f0, t + n⟩ : S48) :: m
  | [], x => ⟨x.f1, [], rfl, rfl⟩
  | y :: l, x => by
    by_cases c : x.f0 = y.f0
    · obtain ⟨t, m, h1, h2⟩ := del_del (x := x) n l ⟨x.f0, x.f1 + y.f1⟩
      refine ⟨t, m, ?_, ?_⟩
      · unfold jnc
        rw [if_pos c]
        exact h1
      · unfold jnc
        rw [if_pos (show (⟨x.f0, x.f1 + n⟩ : S48).f0 = y.f0 from c)]
        show jnc ⟨x.f0, x.f1 + n + y.f1⟩ l = _
        rw [show x.f1 + n + y.f1 = x.f1 + y.f1 + n by omega]
        exact h2
    · refine ⟨x.f1, jnc y l, ?_, ?_⟩
      · exact if_neg c
      · exact if_neg (show ¬ (⟨x.f0, x.f1 + n⟩ : S48).f0 = y.f0 from c)
theorem jn_del (n : Int) (l : List S48) : jn (delR n (jn l)) = jn (delR n l) := by
  cases l with
  | nil => rfl
  | cons x l =>
    obtain ⟨t, m, h1, h2⟩ := del_del (x := x) n l x
    have ha := jnc_apart l ⟨x.f0, x.f1 + n⟩
    rw [h2] at ha
    show jn (delR n (jnc x l)) = jnc ⟨x.f0, x.f1 + n⟩ l
    rw [h1, h2]
    exact jn_of_apart ha
theorem delR_delR (m n : Int) (r : List S48) : delR n (delR m r) = delR (m + n) r := by
  cases r with
  | nil => rfl
  | cons x r =>
    show (⟨x.f0, x.f1 + m + n⟩ : S48) :: r = (⟨x.f0, x.f1 + (m + n)⟩ : S48) :: r
    rw [Int.add_assoc]
theorem delR_sm (b : Int) {r : List S48} (h : r ≠ []) : sm (delR b r) = sm r + b := by
  cases r with
  | nil => exact absurd rfl h
  | cons x r =>
    simp only [delR, sm]
    omega
theorem delR_ok {m b : Int} {r : List S48} (h : RunsM m r) (hb : 0 ≤ b) : RunsM m (delR b r) := by
  cases r with
  | nil => exact h
  | cons x r =>
    have hx := h.cons
    intro y hy
    rcases List.mem_cons.1 hy with rfl | hy
    · exact ⟨hx.1.1, hx.1.2.1, by show 1 ≤ x.f1 + b; omega⟩
    · exact hx.2 y hy
theorem delR_len (b : Int) (r : List S48) : (delR b r).length = r.length := by
  cases r <;> rfl
theorem delV_twice {l : List ByteArray} {r : List S48} {m n : Int} (hm : 0 ≤ m) (hn : 0 ≤ n) (h : (delV l r m).2.2 = 0) : (delV l r m).1 = l ∧ (delV l r m).2.1.length ≤ r.length ∧ delV l (delV l r m).2.1 n = delV l r (m + n) := by
  by_cases c : chkV l r = 0
  · have hk := chk_0 c
    have h0 := smM_nonneg hk.2.2.1
    by_cases g : m < 0 ∨ 1099511627776 - sm r < m ∨ (r = [] ∧ m ≠ 0)
    · have e : delV l r m = ([], [], 2) := by
        unfold delV
        rw [if_pos c, if_pos g]
      rw [e] at h
      cases h
    · have e : delV l r m = (l, cln [] (delR m r), 0) := by
        unfold delV
        rw [if_pos c, if_neg g]
      have hlen := cln_len (delR m r) []
      rw [delR_len] at hlen
      simp only [List.length_nil] at hlen
      rw [e]
      refine ⟨rfl, by show (cln [] (delR m r)).length ≤ _; omega, ?_⟩
      show delV l (cln [] (delR m r)) n = _
      have hok := cln_ok (delR m r) nilM (delR_ok hk.2.2.1 hm)
      by_cases cr : r = []
      · subst cr
        have m0 : m = 0 := by
          apply Classical.byContradiction
          intro h9
          exact g (.inr (.inr ⟨rfl, h9⟩))
        rw [m0, Int.zero_add]
        rfl
      · have es : sm (cln [] (delR m r)) = sm r + m := by
          rw [cln_sm, delR_sm m cr]
          simp only [sm]
          omega
        have ck : chkV l (cln [] (delR m r)) = 0 := chkV_of (by omega) hk.2.1 hok (by omega)
        have hne : cln [] (delR m r) ≠ [] := by
          intro e9
          have h1 := delR_sm m cr
          have h2 : sm (cln [] (delR m r)) = 0 := by
            rw [e9]
            rfl
          cases r with
          | nil => exact cr rfl
          | cons x r =>
            have hx := hk.2.2.1.cons
            have h3 := smM_nonneg hx.2
            simp only [sm] at es
            omega
        have ej : cln [] (delR n (cln [] (delR m r))) = cln [] (delR (m + n) r) := by
          rw [cln_jn, cln_jn, cln_jn, jn_del, delR_delR]
        unfold delV
        rw [if_pos ck, if_pos c, es, ej]
        by_cases g2 : 1099511627776 - sm r < m + n
        · rw [if_pos (.inr (.inl (by omega))), if_pos (.inr (.inl g2))]
        · rw [if_neg (fun h9 => h9.elim (fun k => by omega) (fun h8 => h8.elim (fun k => by omega) (fun k => hne k.1))), if_neg (fun h9 => h9.elim (fun k => by omega) (fun h8 => h8.elim g2 (fun k => cr k.1)))]
  · have e : delV l r m = ([], [], chkV l r) := by
      unfold delV
      rw [if_neg c]
    rw [e] at h
    exact absurd h c
theorem delV_bad {l : List ByteArray} {r : List S48} {m : Int} (h : ¬ (delV l r m).2.2 = 0) : (delV l r m).2.1 = [] := by
  unfold delV at h ⊢
  by_cases c : chkV l r = 0
  · rw [if_pos c] at h ⊢
    by_cases g : m < 0 ∨ 1099511627776 - sm r < m ∨ (r = [] ∧ m ≠ 0)
    · rw [if_pos g]
    · rw [if_neg g] at h
      exact absurd rfl h
  · rw [if_neg c]
theorem delV_len (l : List ByteArray) (r : List S48) (m : Int) : (delV l r m).1.length ≤ l.length ∧ (delV l r m).2.1.length ≤ r.length := by
  unfold delV
  by_cases c : chkV l r = 0
  · rw [if_pos c]
    by_cases g : m < 0 ∨ 1099511627776 - sm r < m ∨ (r = [] ∧ m ≠ 0)
    · rw [if_pos g]
      simp
    · rw [if_neg g]
      have hlen := cln_len (delR m r) []
      rw [delR_len] at hlen
      simp only [List.length_nil] at hlen
      exact ⟨Nat.le_refl _, by show (cln [] (delR m r)).length ≤ _; omega⟩
  · rw [if_neg c]
    simp
theorem RemapDelays_pure {l : List ByteArray} {r : List S48} {m n : Int} (hs : StrsOk l) : ∃ k, signalbenchlaw12_RemapDelays.f k l r m n = some true := by
  refine Ev.rounds (Ev.bind lives12_ev (Ev.congr (fun k => if_pos rfl) ?_))
  have hj : Ev (fun k => signalbenchlaw12_RemapDelays.j0 k m n true l r) true := Ev.step (f := fun _ => some true) (fun k => by simp only [signalbenchlaw12_RemapDelays.j0]; rfl) (Ev.now _)
  rw [few12_eq]
  refine Ev.congr (fun k => Option.bind_some _ _) ?_
  by_cases c : fewV12 l r = true
  · have hf : l.length ≤ 60 ∧ r.length ≤ 500 := of_decide_eq_true c
    refine Ev.congr (fun k => if_pos c) ?_
    by_cases c1 : m < 0
    · exact Ev.congr (fun k => if_pos c1) hj
    · refine Ev.congr (fun k => if_neg c1) ?_
      by_cases c2 : n < 0
      · exact Ev.congr (fun k => if_pos c2) hj
      · refine Ev.congr (fun k => if_neg c2) ?_
        by_cases c3 : m > 1099511627776
        · exact Ev.congr (fun k => if_pos c3) hj
        · refine Ev.congr (fun k => if_neg c3) ?_
          by_cases c4 : n > 1099511627776
          · rw [decide_eq_true c4]
            exact hj
          · rw [decide_eq_false c4]
            have ew : wrap64 (m + n) = m + n := w64 (by omega) (by omega)
            have d1 := Delay_ev (b := m) hs (show l.length ≤ 100000 by omega) (show r.length ≤ 140737488351232 by omega) (by omega)
            have d3 := Delay_ev (b := m + n) hs (show l.length ≤ 100000 by omega) (show r.length ≤ 140737488351232 by omega) (by omega)
            refine Ev.step (f := fun k => (remap_Delay.f k l r m).bind fun bt337 => (if bt337.2.2 = 0 then ((remap_Delay.f k bt337.1 bt337.2.1 n).bind fun bt345 => ((remap_Delay.f k l r (m + n)).bind fun bt353 => (if bt345.2.2 = bt353.2.2 then ((signalbenchlaw12_equal.f k bt345.1 bt345.2.1 bt353.1 bt353.2.1).bind fun t361 => (some t361)) else (some false)))) else (some ((bt337.2.1.length : Int) == 0)))) (fun k => ?_) (Ev.bind d1 ?_)
            · simp only [signalbenchlaw12_RemapDelays.j0]
              rw [if_neg (by decide), ew]
            · by_cases e : (delV l r m).2.2 = 0
              · have ht := delV_twice (n := n) (by omega) (by omega) e
                have d2 := Delay_ev (r := (delV l r m).2.1) (b := n) hs (show l.length ≤ 100000 by omega) (by omega) (by omega)
                rw [ht.2.2] at d2
                have hlen := delV_len l r (m + n)
                refine Ev.congr (fun k => if_pos e) ?_
                rw [ht.1]
                exact Ev.bind d2 (Ev.bind d3 (Ev.congr (fun k => if_pos rfl) (Ev.bind (equal12_ev _ _ (by omega) (by omega)) (Ev.now _))))
              · refine Ev.congr (fun k => if_neg e) ?_
                rw [delV_bad e]
                exact Ev.now _
  · exact Ev.congr (fun k => if_neg c) hj
end Go.Proofs.Ytllpgidmdomfcaa
