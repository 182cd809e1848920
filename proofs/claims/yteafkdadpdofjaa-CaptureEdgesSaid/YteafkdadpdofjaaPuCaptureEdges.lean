/- The law CaptureEdges as a plain statement on numbers and lists: with enough rounds it answers true; conditions: each number is one of its kind, no list or string is longer than its memory allows. -/
import Derived.Laws.BitsAllLaws
import Derived.WalkKit
import Derived.Test.YteafkdadpdofjaaWMore
import Derived.Laws.Strings
import Derived.Test.YteafkdadpdofjaaQx0
import Derived.Test.YteafkdadpdofjaaQx3
import Derived.Test.YteafkdadpdofjaaQx4
import Derived.Test.YteafkdadpdofjaaQx7
import Derived.Test.YteafkdadpdofjaaQx8
import Derived.Test.YteafkdadpdofjaaQx10
import Derived.Test.YteafkdadpdofjaaQx11
import Derived.Test.YteafkdadpdofjaaQx15
import Derived.Test.YteafkdadpdofjaaQx18
import Derived.Test.YteafkdadpdofjaaQx30
namespace Go.Proofs.Yteafkdadpdofjaa
open Go Go.RowKit Go.Proofs.YteafkdadpdofjaaW.PrintWords Go.Proofs.YteafkdadpdofjaaW.PrintLast Go.Proofs.Yteafkdadpdofjaa.Q
set_option linter.unusedVariables false
theorem w64 {x : Int} (h0 : -9223372036854775808 ≤ x) (h1 : x ≤ 9223372036854775807) : wrap64 x = x := by
  unfold wrap64
  omega
theorem wf64 {x : Int} (h : (Lit.int .i64 x).wf = true) : -9223372036854775808 ≤ x ∧ x ≤ 9223372036854775807 := by
  simp [Lit.wf, IntKind.min, IntKind.max, IntKind.bits, IntKind.signed] at h
  omega
theorem succ_mid {α : Type} (pre : List α) (x : α) (h : pre.length ≤ 9223372036854775806) : wrap64 ((pre.length : Int) + 1) = ((pre ++ [x]).length : Int) := by
  rw [w64 (by omega) (by omega)]
  simp
theorem mid_snoc {α : Type} (pre post : List α) (x : α) : pre ++ x :: post = (pre ++ [x]) ++ post := by simp
def wd (c : Int) : Bool := if 97 ≤ c ∧ c ≤ 122 then true else if 48 ≤ c ∧ c ≤ 57 then true else if c = 95 then true else false
def wAll (s : ByteArray) : Nat → Nat → Bool
  | 0, _ => true
  | m + 1, i => if wd (bt s (i : Int)) = true then wAll s m (i + 1) else false
def nmOk (s : ByteArray) : Bool := if s.size = 0 then false else if 16 < s.size then false else if 97 ≤ bt s 0 ∧ bt s 0 ≤ 122 then wAll s s.size 0 else false
theorem w32 {x : Int} (h0 : 0 ≤ x) (h1 : x ≤ 255) : wrap32 x = x := by
  unfold wrap32
  omega
theorem nil_iff (s : ByteArray) : s.toList = ([] : List UInt8) ↔ s.size = 0 := by
  rw [ByteArray.toList_eq, ← List.length_eq_zero_iff, data_length]
theorem lex_letter_eq (c : Int) : lex_letter.f c = some (decide (97 ≤ c ∧ c ≤ 122)) := by
  unfold lex_letter.f
  by_cases h : 97 ≤ c <;> simp [h]
theorem lex_word_eq (c : Int) : lex_word.f c = some (wd c) := by
  unfold lex_word.f lex_digit.f wd
  rw [lex_letter_eq]
  by_cases h : 97 ≤ c ∧ c ≤ 122
  · simp [h]
  · by_cases h1 : 48 ≤ c
    · by_cases h2 : c ≤ 57
      · simp [h, h1, h2]
      · by_cases h3 : c = 95 <;> simp [h, h1, h2, h3]
    · by_cases h3 : c = 95 <;> simp [h, h1, h3]
theorem lex_Name_l0 (s : ByteArray) (hs : s.size ≤ 140737488351232) : ∀ (m i : Nat), i + m = s.size → Ev (fun k => lex_Name.l0 k s (s.size : Int) (i : Int)) (wAll s m i)
  | 0, i, h => by
    refine Ev.step (f := fun _ => some true) (fun k => ?_) (Ev.now _)
    simp only [lex_Name.l0]
    rw [if_neg (by omega)]
  | m + 1, i, h => by
    have hb := bt_range s (i : Int)
    have hst : ∀ k, lex_Name.l0 (k + 1) s (s.size : Int) (i : Int) = if wd (bt s (i : Int)) = true then lex_Name.l0 k s (s.size : Int) ((i + 1 : Nat) : Int) else some false := by
      intro k
      simp only [lex_Name.l0]
      rw [if_pos (by omega), if_pos (by omega), if_pos (by omega), lex_word_eq, w32 hb.1 hb.2, Option.bind_some, w64 (by omega) (by omega)]
      rfl
    unfold wAll
    by_cases c : wd (bt s (i : Int)) = true
    · rw [if_pos c]
      exact Ev.step (fun k => (hst k).trans (if_pos c)) (lex_Name_l0 s hs m (i + 1) (by omega))
    · rw [if_neg c]
      exact Ev.step (fun k => (hst k).trans (if_neg c)) (Ev.now _)
theorem lex_Name_ev (s : ByteArray) (hs : s.size ≤ 140737488351232) : Ev (fun k => lex_Name.f k s) (nmOk s) := by
  have hb := bt_range s 0
  have hj : Ev (fun k => lex_Name.j0 k s true) false := Ev.step (f := fun _ => some false) (fun k => by simp only [lex_Name.j0]; rfl) (Ev.now _)
  unfold nmOk
  by_cases h0 : s.size = 0
  · rw [if_pos h0]
    refine Ev.congr (fun k => ?_) hj
    unfold lex_Name.f
    rw [if_pos ((nil_iff s).2 h0)]
  · rw [if_neg h0]
    have hn : ¬ s.toList = [] := fun h => h0 ((nil_iff s).1 h)
    by_cases h1 : 16 < s.size
    · rw [if_pos h1]
      refine Ev.congr (fun k => ?_) hj
      unfold lex_Name.f
      rw [if_neg hn, if_pos (by omega)]
    · rw [if_neg h1]
      have e : ∀ k, lex_Name.f k s = lex_Name.j0 k s (!(decide (97 ≤ bt s 0 ∧ bt s 0 ≤ 122))) := by
        intro k
        unfold lex_Name.f
        rw [if_neg hn, if_neg (by omega), if_pos (by omega), lex_letter_eq, w32 hb.1 hb.2]
        rfl
      refine Ev.congr e ?_
      by_cases h2 : 97 ≤ bt s 0 ∧ bt s 0 ≤ 122
      · rw [if_pos h2, decide_eq_true h2]
        refine Ev.step (fun k => ?_) (lex_Name_l0 s hs s.size 0 (by omega))
        simp only [lex_Name.j0]
        rw [if_neg (by decide)]
        rfl
      · rw [if_neg h2, decide_eq_false h2]
        exact hj
def StrsOk (l : List ByteArray) : Prop := ∀ s ∈ l, s.size ≤ 140737488351232
def nmA : List ByteArray → Bool
  | [] => true
  | s :: l => if nmOk s = true then nmA l else false
theorem rds_mid (pre post : List ByteArray) (x : ByteArray) : rdOf ByteArray.empty (pre ++ x :: post) (pre.length : Int) = x := by simp [rdOf, List.getD]
theorem mids_lt (pre post : List ByteArray) (x : ByteArray) : (pre.length : Int) < ((pre ++ x :: post).length : Int) := by
  simp only [List.length_append, List.length_cons]
  omega
/-- The first place of a name, or -1. -/
def ixS (s : ByteArray) : Nat → List ByteArray → Int
  | _, [] => -1
  | n, t :: l => if s.toList = t.toList then (n : Int) else ixS s (n + 1) l
theorem Index_l0 (s : ByteArray) : ∀ (post pre : List ByteArray), (pre ++ post).length ≤ 140737488351232 →
    Ev (fun k => slices_Index_string.l0 k (pre ++ post) s ((pre ++ post).length : Int) (pre.length : Int)) (ixS s pre.length post)
  | [], pre, hl => by
    refine Ev.step (f := fun _ => some (-1)) (fun k => ?_) (Ev.now _)
    simp only [slices_Index_string.l0]
    rw [if_neg (by simp)]
  | x :: post, pre, hl => by
    have hlt := mids_lt pre post x
    have hn : pre.length ≤ 9223372036854775806 := by
      simp only [List.length_append, List.length_cons] at hl
      omega
    have hst : ∀ k, slices_Index_string.l0 (k + 1) (pre ++ x :: post) s ((pre ++ x :: post).length : Int) (pre.length : Int) = if s.toList = x.toList then some (pre.length : Int) else slices_Index_string.l0 k (pre ++ x :: post) s ((pre ++ x :: post).length : Int) ((pre ++ [x]).length : Int) := by
      intro k
      simp only [slices_Index_string.l0]
      rw [rds_mid, if_pos hlt, if_pos (by omega), if_pos hlt, succ_mid _ _ hn]
    unfold ixS
    by_cases c : s.toList = x.toList
    · rw [if_pos c]
      exact Ev.step (fun k => (hst k).trans (if_pos c)) (Ev.now _)
    · rw [if_neg c]
      have ih := Index_l0 s post (pre ++ [x]) (by simpa using hl)
      rw [← mid_snoc] at ih
      have e : (pre ++ [x]).length = pre.length + 1 := by simp
      rw [e] at ih
      refine Ev.step (fun k => (hst k).trans (if_neg c)) ?_
      rw [e]
      exact ih
theorem Index_ev (l : List ByteArray) (s : ByteArray) (hl : l.length ≤ 140737488351232) : Ev (fun k => slices_Index_string.f k l s) (ixS s 0 l) := Ev.congr (fun k => rfl) (Index_l0 s l [] (by simpa using hl))
theorem Contains_ev (l : List ByteArray) (s : ByteArray) (hl : l.length ≤ 140737488351232) : Ev (fun k => slices_Contains_string.f k l s) (decide (ixS s 0 l ≥ 0)) := Ev.bind (Index_ev l s hl) (Ev.now _)
def dupS : List ByteArray → List ByteArray → Bool
  | _, [] => false
  | pre, x :: post => if ixS x 0 pre ≥ 0 then true else dupS (pre ++ [x]) post
def nmsV (l : List ByteArray) : Int := if 16 < l.length then 6 else if l.length = 0 then 1 else if nmA l = true then (if dupS [] l = true then 9 else 0) else 4
theorem checkNames_l1 : ∀ (post pre : List ByteArray), (pre ++ post).length ≤ 140737488351232 →
    Ev (fun k => capture_checkNames.l1 k (pre ++ post) (pre ++ post) ((pre ++ post).length : Int) (pre.length : Int)) (if dupS pre post = true then 9 else 0)
  | [], pre, hl => by
    refine Ev.step (f := fun _ => some 0) (fun k => ?_) ?_
    · simp only [capture_checkNames.l1]
      rw [if_neg (by simp)]
    · rw [show (if dupS pre [] = true then (9 : Int) else 0) = 0 from rfl]
      exact Ev.now _
  | x :: post, pre, hl => by
    have hlt := mids_lt pre post x
    have hn : pre.length ≤ 9223372036854775806 := by
      simp only [List.length_append, List.length_cons] at hl
      omega
    have hp : pre.length ≤ 140737488351232 := by
      simp only [List.length_append, List.length_cons] at hl
      omega
    have hst : ∀ k, capture_checkNames.l1 (k + 1) (pre ++ x :: post) (pre ++ x :: post) ((pre ++ x :: post).length : Int) (pre.length : Int) = (slices_Contains_string.f k pre x).bind fun t111 => (if t111 = true then (some 9) else (capture_checkNames.l1 k (pre ++ x :: post) (pre ++ x :: post) ((pre ++ x :: post).length : Int) ((pre ++ [x]).length : Int))) := by
      intro k
      simp only [capture_checkNames.l1]
      rw [rds_mid, if_pos hlt, if_pos (by omega), if_pos hlt, if_pos (by omega), succ_mid _ _ hn, Int.toNat_natCast, List.take_left' rfl]
    refine Ev.step hst (Ev.bind (Contains_ev pre x hp) ?_)
    unfold dupS
    by_cases c : ixS x 0 pre ≥ 0
    · rw [if_pos c, decide_eq_true c]
      exact Ev.congr (fun k => if_pos rfl) (Ev.now _)
    · rw [if_neg c, decide_eq_false c]
      have ih := checkNames_l1 post (pre ++ [x]) (by simpa using hl)
      rw [← mid_snoc] at ih
      exact Ev.congr (fun k => if_neg (by decide)) ih
theorem checkNames_l0 : ∀ (post pre : List ByteArray) (R : Int), StrsOk post → (pre ++ post).length ≤ 140737488351232 → Ev (fun k => capture_checkNames.l1 k (pre ++ post) (pre ++ post) ((pre ++ post).length : Int) 0) R →
    Ev (fun k => capture_checkNames.l0 k (pre ++ post) (pre ++ post) ((pre ++ post).length : Int) (pre.length : Int)) (if nmA post = true then R else 4)
  | [], pre, R, hs, hl, hR => by
    refine Ev.step (fun k => ?_) (Ev.congr (fun k => rfl) hR)
    simp only [capture_checkNames.l0]
    rw [if_neg (by simp)]
  | x :: post, pre, R, hs, hl, hR => by
    have hlt := mids_lt pre post x
    have hn : pre.length ≤ 9223372036854775806 := by
      simp only [List.length_append, List.length_cons] at hl
      omega
    have hst : ∀ k, capture_checkNames.l0 (k + 1) (pre ++ x :: post) (pre ++ x :: post) ((pre ++ x :: post).length : Int) (pre.length : Int) = (lex_Name.f k x).bind fun t108 => (if t108 = true then (capture_checkNames.l0 k (pre ++ x :: post) (pre ++ x :: post) ((pre ++ x :: post).length : Int) ((pre ++ [x]).length : Int)) else (some 4)) := by
      intro k
      simp only [capture_checkNames.l0]
      rw [rds_mid, if_pos hlt, if_pos (by omega), if_pos hlt, succ_mid _ _ hn]
    refine Ev.step hst (Ev.bind (lex_Name_ev x (hs x (by simp))) ?_)
    unfold nmA
    by_cases c : nmOk x = true
    · rw [if_pos c, c]
      have ih := checkNames_l0 post (pre ++ [x]) R (fun y hy => hs y (by simp [hy])) (by simpa using hl) (by rw [← mid_snoc]; exact hR)
      rw [← mid_snoc] at ih
      exact Ev.congr (fun k => if_pos rfl) ih
    · rw [if_neg c, Bool.eq_false_iff.2 c]
      exact Ev.congr (fun k => if_neg (by decide)) (Ev.now _)
theorem checkNames_ev {l : List ByteArray} (hs : StrsOk l) (hl : l.length ≤ 140737488351232) (h16 : l.length ≤ 16) : Ev (fun k => capture_checkNames.f k l) (nmsV l) := by
  unfold nmsV
  rw [if_neg (by omega)]
  by_cases c : l.length = 0
  · rw [if_pos c]
    refine Ev.congr (fun k => ?_) (Ev.now _)
    unfold capture_checkNames.f
    rw [if_pos (by omega)]
  · rw [if_neg c]
    refine Ev.congr (fun k => ?_) (checkNames_l0 l [] _ hs (by simpa using hl) (checkNames_l1 l [] (by simpa using hl)))
    unfold capture_checkNames.f
    rw [if_neg (by omega)]
    rfl
theorem nmsV_0 {l : List ByteArray} (h : nmsV l = 0) : 1 ≤ l.length ∧ l.length ≤ 16 := by
  unfold nmsV at h
  by_cases c : 16 < l.length
  · rw [if_pos c] at h
    omega
  · rw [if_neg c] at h
    by_cases c1 : l.length = 0
    · rw [if_pos c1] at h
      omega
    · omega
def sm : List S48 → Int
  | [] => 0
  | x :: l => x.f1 + sm l
/-- Levels from 0 to m, and at least one tick each. -/
def RunsM (m : Int) (l : List S48) : Prop := ∀ x ∈ l, 0 ≤ x.f0 ∧ x.f0 ≤ m ∧ 1 ≤ x.f1
def rOk (m : Int) : Int → List S48 → Bool
  | left, [] => true
  | left, x :: l => if 0 ≤ x.f0 ∧ x.f0 ≤ m ∧ 1 ≤ x.f1 ∧ x.f1 ≤ left then rOk m (left - x.f1) l else false
theorem rd_mid (pre post : List S48) (x : S48) : rd_T48 (pre ++ x :: post) (pre.length : Int) = x := by simp [rd_T48, List.getD]
theorem mid_lt (pre post : List S48) (x : S48) : (pre.length : Int) < ((pre ++ x :: post).length : Int) := by
  simp only [List.length_append, List.length_cons]
  omega
theorem RunsM.cons {m : Int} {x : S48} {l : List S48} (h : RunsM m (x :: l)) : (0 ≤ x.f0 ∧ x.f0 ≤ m ∧ 1 ≤ x.f1) ∧ RunsM m l := ⟨h x (by simp), fun y hy => h y (by simp [hy])⟩
theorem smM_nonneg {m : Int} : ∀ {l : List S48}, RunsM m l → 0 ≤ sm l
  | [], _ => Int.le_refl _
  | x :: l, h => by
    have h1 := h.cons
    have h2 := smM_nonneg h1.2
    simp only [sm]
    omega
theorem rOk_iff {m : Int} : ∀ {l : List S48} {left : Int}, 0 ≤ left → (rOk m left l = true ↔ RunsM m l ∧ sm l ≤ left)
  | [], left, h => by simp [rOk, RunsM, sm, h]
  | x :: l, left, h => by
    unfold rOk
    by_cases c : 0 ≤ x.f0 ∧ x.f0 ≤ m ∧ 1 ≤ x.f1 ∧ x.f1 ≤ left
    · rw [if_pos c, rOk_iff (l := l) (by omega)]
      simp only [RunsM, sm, List.mem_cons, forall_eq_or_imp]
      constructor
      · rintro ⟨h1, h2⟩
        exact ⟨⟨⟨c.1, c.2.1, c.2.2.1⟩, h1⟩, by omega⟩
      · rintro ⟨⟨h1, h2⟩, h3⟩
        exact ⟨h2, by omega⟩
    · rw [if_neg c]
      simp only [Bool.false_eq_true, false_iff]
      rintro ⟨h1, h2⟩
      have h3 := h1.cons
      have h4 := smM_nonneg h3.2
      simp only [sm] at h2
      exact c ⟨h3.1.1, h3.1.2.1, h3.1.2.2, by omega⟩
def mk (l : List ByteArray) : Int := wrap64 ((shl .i64 1 (l.length : Int)) - 1)
def chkV (l : List ByteArray) (r : List S48) : Int := if 262144 < r.length then 6 else if nmsV l = 0 then (if rOk (mk l) 1099511627776 r = true then 0 else 2) else nmsV l
theorem chk_0 {l : List ByteArray} {r : List S48} (h : chkV l r = 0) : r.length ≤ 262144 ∧ nmsV l = 0 ∧ RunsM (mk l) r ∧ sm r ≤ 1099511627776 := by
  unfold chkV at h
  by_cases c : 262144 < r.length
  · rw [if_pos c] at h
    omega
  · rw [if_neg c] at h
    by_cases c1 : nmsV l = 0
    · rw [if_pos c1] at h
      by_cases c2 : rOk (mk l) 1099511627776 r = true
      · exact ⟨by omega, c1, (rOk_iff (by omega)).1 c2⟩
      · rw [if_neg c2] at h
        omega
    · rw [if_neg c1] at h
      exact absurd h c1
theorem Check_l0 (m : Int) : ∀ (post pre : List S48) (left : Int), 0 ≤ left → left ≤ 1099511627776 → (pre ++ post).length ≤ 140737488351232 →
    Ev (fun k => capture_Check.l0 k m left (pre ++ post) ((pre ++ post).length : Int) (pre.length : Int)) (if rOk m left post = true then 0 else 2)
  | [], pre, left, h0, h1, hl => by
    rw [show (if rOk m left [] = true then (0 : Int) else 2) = 0 from rfl]
    refine Ev.step (f := fun _ => some 0) (fun k => ?_) (Ev.now _)
    simp only [capture_Check.l0]
    rw [if_neg (by simp)]
  | x :: post, pre, left, h0, h1, hl => by
    have hlt := mid_lt pre post x
    have hn : pre.length ≤ 9223372036854775806 := by
      simp only [List.length_append, List.length_cons] at hl
      omega
    unfold rOk
    by_cases c : 0 ≤ x.f0 ∧ x.f0 ≤ m ∧ 1 ≤ x.f1 ∧ x.f1 ≤ left
    · have ih := Check_l0 m post (pre ++ [x]) (left - x.f1) (by omega) (by omega) (by simpa using hl)
      rw [← mid_snoc] at ih
      rw [if_pos c]
      refine Ev.step (fun k => ?_) ih
      simp only [capture_Check.l0]
      rw [rd_mid, if_pos hlt, if_pos (by omega), if_pos hlt, if_neg (by omega), if_neg (by omega), if_neg (by omega), if_neg (by omega), w64 (by omega) (by omega), succ_mid _ _ hn]
    · rw [if_neg c, show (if false = true then (0 : Int) else 2) = 2 from rfl]
      refine Ev.step (f := fun _ => some 2) (fun k => ?_) (Ev.now _)
      simp only [capture_Check.l0]
      rw [rd_mid, if_pos hlt, if_pos (by omega), if_pos hlt]
      by_cases c1 : x.f0 < 0
      · rw [if_pos c1]
      · rw [if_neg c1]
        by_cases c2 : x.f0 > m
        · rw [if_pos c2]
        · rw [if_neg c2]
          by_cases c3 : x.f1 < 1
          · rw [if_pos c3]
          · rw [if_neg c3, if_pos (by omega)]
theorem Check_ev {l : List ByteArray} {r : List S48} (hs : StrsOk l) (hl : l.length ≤ 140737488351232) (hr : r.length ≤ 140737488351232) : Ev (fun k => capture_Check.f k l r) (chkV l r) := by
  have hj : Ev (fun k => capture_Check.j0 k true l r) 6 := Ev.step (f := fun _ => some 6) (fun k => by simp only [capture_Check.j0]; rfl) (Ev.now _)
  by_cases c : 16 < l.length
  · have e : chkV l r = 6 := by
      have e1 : nmsV l = 6 := by
        unfold nmsV
        rw [if_pos c]
      unfold chkV
      rw [e1]
      by_cases c1 : 262144 < r.length
      · rw [if_pos c1]
      · rw [if_neg c1]
        rfl
    rw [e]
    refine Ev.congr (fun k => ?_) hj
    unfold capture_Check.f
    rw [if_pos (by omega)]
  · have e : ∀ k, capture_Check.f k l r = capture_Check.j0 k (decide ((r.length : Int) > 262144)) l r := by
      intro k
      unfold capture_Check.f
      rw [if_neg (by omega)]
    refine Ev.congr e ?_
    unfold chkV
    by_cases c1 : 262144 < r.length
    · rw [if_pos c1, decide_eq_true (by omega)]
      exact hj
    · rw [if_neg c1, decide_eq_false (by omega)]
      refine Ev.step (f := fun k => (capture_checkNames.f k l).bind fun t113 => (if t113 = 0 then (capture_Check.l0 k (mk l) 1099511627776 r (r.length : Int) 0) else (some t113))) (fun k => ?_) (Ev.bind (checkNames_ev hs hl (by omega)) ?_)
      · simp only [capture_Check.j0]
        rw [if_neg (by decide)]
        rfl
      · by_cases c2 : nmsV l = 0
        · rw [if_pos c2]
          exact Ev.congr (fun k => if_pos c2) (Check_l0 (mk l) r [] 1099511627776 (by omega) (by omega) (by simpa using hr))
        · rw [if_neg c2]
          exact Ev.congr (fun k => if_neg c2) (Ev.now _)
theorem long_l0 {m : Int} : ∀ (post pre : List S48) (s : Int), 0 ≤ s → s + sm post ≤ 4611686018427387904 → RunsM m post → (pre ++ post).length ≤ 140737488351232 →
    Ev (fun k => capture_long.l0 k s (pre ++ post) ((pre ++ post).length : Int) (pre.length : Int)) (s + sm post)
  | [], pre, s, h0, h1, hw, hl => by
    refine Ev.step (f := fun _ => some s) (fun k => ?_) ?_
    · simp only [capture_long.l0]
      rw [if_neg (by simp)]
    · simp only [sm, Int.add_zero]
      exact Ev.now _
  | x :: post, pre, s, h0, h1, hw, hl => by
    have hx := hw.cons
    have hs := smM_nonneg hx.2
    simp only [sm] at h1
    have hlt := mid_lt pre post x
    have hn : pre.length ≤ 9223372036854775806 := by
      simp only [List.length_append, List.length_cons] at hl
      omega
    have ih := long_l0 post (pre ++ [x]) (s + x.f1) (by omega) (by omega) hx.2 (by simpa using hl)
    rw [← mid_snoc] at ih
    have e1 : s + sm (x :: post) = s + x.f1 + sm post := by
      simp only [sm]
      omega
    rw [e1]
    refine Ev.step (fun k => ?_) ih
    simp only [capture_long.l0]
    rw [rd_mid, if_pos hlt, if_pos (by omega), if_pos hlt, w64 (x := s + x.f1) (by omega) (by omega), succ_mid _ _ hn]
theorem long_ev {m : Int} {r : List S48} (h : RunsM m r) (hs : sm r ≤ 1099511627776) (hr : r.length ≤ 140737488351232) : Ev (fun k => capture_long.f k r) (sm r) := by
  have h := long_l0 r [] 0 (by omega) (by omega) h (by simpa using hr)
  rw [Int.zero_add] at h
  exact Ev.congr (fun k => rfl) h
def longC (l : List ByteArray) (r : List S48) : Int := if chkV l r = 0 then sm r else 0
theorem Long_ev {l : List ByteArray} {r : List S48} (hs : StrsOk l) (hl : l.length ≤ 140737488351232) (hr : r.length ≤ 140737488351232) : Ev (fun k => capture_Long.f k l r) (longC l r) := by
  unfold longC
  refine Ev.bind (Check_ev hs hl hr) ?_
  by_cases c : chkV l r = 0
  · have h := chk_0 c
    rw [if_pos c]
    exact Ev.congr (fun k => if_pos c) (Ev.bind (long_ev h.2.2.1 h.2.2.2 hr) (Ev.now _))
  · rw [if_neg c]
    exact Ev.congr (fun k => if_neg c) (Ev.now _)
def atS : List S48 → Int → Int × Bool
  | [], _ => (-1, false)
  | x :: l, t => if t < x.f1 then (x.f0, true) else atS l (t - x.f1)
def atC (l : List ByteArray) (r : List S48) (t : Int) : Int × Bool := if t < 0 then (-1, false) else if chkV l r = 0 then atS r t else (-1, false)
theorem At_l0 {m : Int} : ∀ (post pre : List S48) (t : Int), 0 ≤ t → t ≤ 9223372036854775807 → RunsM m post → (pre ++ post).length ≤ 140737488351232 →
    Ev (fun k => capture_At.l0 k t (pre ++ post) ((pre ++ post).length : Int) (pre.length : Int)) (atS post t)
  | [], pre, t, h0, h1, hw, hl => by
    refine Ev.step (f := fun _ => some ((-1), false)) (fun k => ?_) (Ev.now _)
    simp only [capture_At.l0]
    rw [if_neg (by simp)]
  | x :: post, pre, t, h0, h1, hw, hl => by
    have hx := hw.cons
    have hlt := mid_lt pre post x
    have hn : pre.length ≤ 9223372036854775806 := by
      simp only [List.length_append, List.length_cons] at hl
      omega
    by_cases c : t < x.f1
    · rw [atS, if_pos c]
      refine Ev.step (f := fun _ => some (x.f0, true)) (fun k => ?_) (Ev.now _)
      simp only [capture_At.l0]
      rw [rd_mid, if_pos hlt, if_pos (by omega), if_pos hlt, if_pos c]
    · have ih := At_l0 post (pre ++ [x]) (t - x.f1) (by omega) (by omega) hx.2 (by simpa using hl)
      rw [← mid_snoc] at ih
      rw [atS, if_neg c]
      refine Ev.step (fun k => ?_) ih
      simp only [capture_At.l0]
      rw [rd_mid, if_pos hlt, if_pos (by omega), if_pos hlt, if_neg c, w64 (by omega) (by omega), succ_mid _ _ hn]
theorem At_ev {l : List ByteArray} {r : List S48} {t : Int} (hs : StrsOk l) (hl : l.length ≤ 140737488351232) (hr : r.length ≤ 140737488351232) (ht : t ≤ 9223372036854775807) : Ev (fun k => capture_At.f k l r t) (atC l r t) := by
  have hj : Ev (fun k => capture_At.j0 k t true l r) (-1, false) := Ev.step (f := fun _ => some (-1, false)) (fun k => by simp only [capture_At.j0]; rfl) (Ev.now _)
  unfold atC
  by_cases c : t < 0
  · rw [if_pos c]
    refine Ev.congr (fun k => ?_) hj
    unfold capture_At.f
    rw [if_pos c]
  · rw [if_neg c]
    refine Ev.congr (f := fun k => (capture_Check.f k l r).bind fun t117 => (capture_At.j0 k t (t117 != 0) l r)) (fun k => ?_) (Ev.bind (Check_ev hs hl hr) ?_)
    · unfold capture_At.f
      rw [if_neg c]
    · by_cases v : chkV l r = 0
      · rw [if_pos v, v]
        refine Ev.step (fun k => ?_) (At_l0 r [] t (by omega) (by omega) (chk_0 v).2.2.1 (by simpa using hr))
        simp only [capture_At.j0]
        rw [if_neg (by decide)]
        rfl
      · rw [if_neg v, show (chkV l r != 0) = true from bne_iff_ne.2 v]
        exact hj
theorem lives09_ev : Ev (fun k => signalbenchlaw09_lives.f k) true := Ev.of (k := 60) (fun k => signalbenchlaw09_lives.mono k) (by decide +kernel)
def fewV (l : List ByteArray) (r : List S48) : Bool := decide (l.length ≤ 100 ∧ r.length ≤ 2000)
theorem few09_eq (l : List ByteArray) (r : List S48) : signalbenchlaw09_few.f l r = some (fewV l r) := by
  unfold signalbenchlaw09_few.f fewV
  by_cases c : l.length ≤ 100
  · rw [if_pos (by omega)]
    by_cases c1 : r.length ≤ 2000
    · rw [decide_eq_true (by omega), decide_eq_true ⟨c, c1⟩]
    · rw [decide_eq_false (by omega), decide_eq_false (fun h => c1 h.2)]
  · rw [if_neg (by omega), decide_eq_false (fun h => c h.1)]
theorem sm_nil : sm ([] : List S48) = 0 := rfl
theorem sm_cons (x : S48) (l : List S48) : sm (x :: l) = x.f1 + sm l := rfl
theorem atS_cons (x : S48) (l : List S48) (t : Int) : atS (x :: l) t = if t < x.f1 then (x.f0, true) else atS l (t - x.f1) := rfl
theorem atS_in {m : Int} : ∀ {l : List S48} {s : Int}, RunsM m l → 0 ≤ s → s < sm l → (atS l s).2 = true
  | [], s, h0, h1, h2 => by
    simp only [sm] at h2
    omega
  | x :: l, s, h0, h1, h2 => by
    simp only [sm] at h2
    simp only [atS]
    by_cases c : s < x.f1
    · rw [if_pos c]
    · rw [if_neg c]
      exact atS_in h0.cons.2 (by omega) (by omega)
def Tk (l : List S48) : Prop := ∀ y ∈ l, 1 ≤ y.f1
theorem Tk.cons {x : S48} {l : List S48} (h : Tk (x :: l)) : 1 ≤ x.f1 ∧ Tk l := ⟨h x (by simp), fun y hy => h y (by simp [hy])⟩
def bit (v i : Int) : Int := Go.bits .and .i64 (shr .i64 v i) 1
theorem wrapN {n : Nat} (h : n < 9223372036854775808) : IntKind.i64.wrap (n : Int) = (n : Int) := by
  rw [IntKind.wrap_i64]
  omega
theorem ofIntN {n : Nat} (h : n < 9223372036854775808) : (BitVec.ofInt 64 (n : Int)).toNat = n := by
  rw [BitVec.toNat_ofInt]
  omega
theorem xorN {a b : Nat} (ha : a < 65536) (hb : b < 65536) : Go.bits .xor .i64 (a : Int) (b : Int) = ((a ^^^ b : Nat) : Int) := by
  have e1 : Go.bits .xor .i64 (a : Int) (b : Int) = IntKind.i64.wrap (((BitVec.ofInt 64 (a : Int) ^^^ BitVec.ofInt 64 (b : Int)).toNat : Nat) : Int) := rfl
  have h : a ^^^ b < 2 ^ 16 := Nat.xor_lt_two_pow (by omega) (by omega)
  rw [e1, BitVec.toNat_xor, ofIntN (by omega), ofIntN (by omega), wrapN (by omega)]
theorem bitN {a i : Nat} (ha : a < 65536) (hi : i < 64) : bit (a : Int) (i : Int) = if a.testBit i = true then 1 else 0 := by
  have e0 : shr .i64 (a : Int) (i : Int) = ((a / 2 ^ i : Nat) : Int) := by
    show (a : Int) / 2 ^ min ((i : Int).toNat) IntKind.i64.bits = _
    rw [Int.toNat_natCast, show IntKind.i64.bits = 64 from rfl, Nat.min_eq_left (by omega)]
    norm_cast
  have h1 : a / 2 ^ i ≤ a := Nat.div_le_self _ _
  have e1 : bit (a : Int) (i : Int) = IntKind.i64.wrap (((BitVec.ofInt 64 (shr .i64 (a : Int) (i : Int)) &&& BitVec.ofInt 64 1).toNat : Nat) : Int) := rfl
  have e2 : (BitVec.ofInt 64 1).toNat = 1 := rfl
  rw [e1, BitVec.toNat_and, e0, ofIntN (by omega), e2, Nat.and_one_is_mod, wrapN (by omega), Nat.testBit_eq_decide_div_mod_eq]
  by_cases c : a / 2 ^ i % 2 = 1
  · rw [if_pos (by simpa using c), c]
    rfl
  · rw [if_neg (by simpa using c), show a / 2 ^ i % 2 = 0 by omega]
    rfl
theorem bit_xor {a b i : Nat} (ha : a < 65536) (hb : b < 65536) (hi : i < 64) : bit (Go.bits .xor .i64 (a : Int) (b : Int)) (i : Int) = 1 ↔ ¬ bit (a : Int) (i : Int) = bit (b : Int) (i : Int) := by
  have h : a ^^^ b < 2 ^ 16 := Nat.xor_lt_two_pow (by omega) (by omega)
  rw [xorN ha hb, bitN (by omega) hi, bitN ha hi, bitN hb hi, Nat.testBit_xor]
  cases a.testBit i <;> cases b.testBit i <;> simp
theorem bit_xorI {a b i : Int} (ha : 0 ≤ a ∧ a < 65536) (hb : 0 ≤ b ∧ b < 65536) (hi : 0 ≤ i ∧ i < 64) : Go.bits .and .i64 (shr .i64 (Go.bits .xor .i64 a b) i) 1 = 1 ↔ ¬ bit a i = bit b i := by
  obtain ⟨a, rfl⟩ := Int.eq_ofNat_of_zero_le ha.1
  obtain ⟨b, rfl⟩ := Int.eq_ofNat_of_zero_le hb.1
  obtain ⟨i, rfl⟩ := Int.eq_ofNat_of_zero_le hi.1
  exact bit_xor (by omega) (by omega) (by omega)
theorem mk_le {l : List ByteArray} (h : l.length ≤ 16) : mk l ≤ 65535 := by
  obtain ⟨n, hn⟩ : ∃ n, n = l.length := ⟨_, rfl⟩
  unfold mk
  rw [← hn] at h ⊢
  clear hn
  have : ∀ n : Fin 17, wrap64 ((shl .i64 1 ((n.val : Nat) : Int)) - 1) ≤ 65535 := by decide +kernel
  exact this ⟨n, by omega⟩
def edI (at_ a b : Int) : Nat → Nat → List S42
  | 0, _ => []
  | m + 1, i => if bit a (i : Int) = bit b (i : Int) then edI at_ a b m (i + 1) else (⟨at_, (i : Int), bit b (i : Int)⟩ : S42) :: edI at_ a b m (i + 1)
def edO (n : Nat) : Int → Int → List S48 → List S42
  | _, _, [] => []
  | a, at_, x :: l => edI at_ a x.f0 n 0 ++ edO n x.f0 (at_ + x.f1) l
theorem edI_self (at_ a : Int) : ∀ (m i : Nat), edI at_ a a m i = []
  | 0, i => rfl
  | m + 1, i => by
    unfold edI
    rw [if_pos rfl]
    exact edI_self at_ a m (i + 1)
theorem edI_len (at_ a b : Int) : ∀ (m i : Nat), (edI at_ a b m i).length ≤ m
  | 0, i => by simp [edI]
  | m + 1, i => by
    have := edI_len at_ a b m (i + 1)
    unfold edI
    by_cases c : bit a (i : Int) = bit b (i : Int)
    · rw [if_pos c]
      omega
    · rw [if_neg c, List.length_cons]
      omega
theorem Edges_l1 (n : List ByteArray) (r xs : List S48) (len i : Int) (a at_ b t : Int) (R : List S42) (ha : 0 ≤ a ∧ a < 65536) (hb : 0 ≤ b ∧ b < 65536) (hn : n.length ≤ 16) :
    ∀ (m j : Nat) (o : List S42), j + m = n.length → o.length + m ≤ 5000000000000 → Ev (fun k => capture_Edges.l0 k (o ++ edI at_ a b m j) b (wrap64 (at_ + t)) xs len (wrap64 (i + 1)) n r) R →
    Ev (fun k => capture_Edges.l1 k o a at_ xs len i (n.length : Int) (j : Int) n r b t) R
  | 0, j, o, hj, ho, hR => by
    refine Ev.step (fun k => ?_) hR
    simp only [capture_Edges.l1]
    rw [if_neg (by omega)]
    simp only [edI, List.append_nil]
  | m + 1, j, o, hj, ho, hR => by
    have e : wrap64 ((j : Int) + 1) = ((j + 1 : Nat) : Int) := by
      rw [w64 (by omega) (by omega)]
      rfl
    have hx := bit_xorI (i := (j : Int)) ha hb (by omega)
    by_cases c : bit a (j : Int) = bit b (j : Int)
    · have e1 : edI at_ a b (m + 1) j = edI at_ a b m (j + 1) := if_pos c
      rw [e1] at hR
      have ih := Edges_l1 n r xs len i a at_ b t R ha hb hn m (j + 1) o (by omega) (by omega) hR
      refine Ev.step (fun k => ?_) ih
      simp only [capture_Edges.l1]
      rw [if_pos (by omega), if_pos (by omega), if_neg (fun h => hx.1 h c), e]
    · have e1 : edI at_ a b (m + 1) j = (⟨at_, (j : Int), bit b (j : Int)⟩ : S42) :: edI at_ a b m (j + 1) := if_neg c
      rw [e1, mid_snoc] at hR
      have ih := Edges_l1 n r xs len i a at_ b t R ha hb hn m (j + 1) (o ++ [⟨at_, (j : Int), bit b (j : Int)⟩]) (by omega) (by simp only [List.length_append, List.length_cons, List.length_nil]; omega) hR
      refine Ev.step (fun k => ?_) ih
      simp only [capture_Edges.l1]
      rw [if_pos (by omega), if_pos (by omega), if_pos (hx.2 c), if_pos (by omega), e]
      rfl
theorem Edges_l0 {m : Int} (n : List ByteArray) (r : List S48) (hn : n.length ≤ 16) (hm : m ≤ 65535) : ∀ (post pre : List S48) (o : List S42) (a at_ : Int), (0 ≤ a ∧ a < 65536) → 0 ≤ at_ → at_ + sm post ≤ 1099511627776 → RunsM m post → (pre ++ post).length ≤ 262144 → o.length + 16 * post.length ≤ 4000000000000 →
    Ev (fun k => capture_Edges.l0 k o a at_ (pre ++ post) ((pre ++ post).length : Int) (pre.length : Int) n r) (o ++ edO n.length a at_ post)
  | [], pre, o, a, at_, ha, h0, h1, hp, hl, ho => by
    rw [show o ++ edO n.length a at_ [] = o from List.append_nil o]
    refine Ev.step (f := fun _ => some o) (fun k => ?_) (Ev.now _)
    simp only [capture_Edges.l0]
    rw [if_neg (by simp)]
  | x :: post, pre, o, a, at_, ha, h0, h1, hp, hl, ho => by
    have hx := hp.cons
    have h3 := smM_nonneg hx.2
    simp only [sm] at h1
    simp only [List.length_cons] at ho
    have hlt := mid_lt pre post x
    have hnn : pre.length ≤ 9223372036854775806 := by
      simp only [List.length_append, List.length_cons] at hl
      omega
    have hle := edI_len at_ a x.f0 n.length 0
    have ih := Edges_l0 n r hn hm post (pre ++ [x]) (o ++ edI at_ a x.f0 n.length 0) x.f0 (at_ + x.f1) (by omega) (by omega) (by omega) hx.2 (by simpa using hl) (by simp only [List.length_append]; omega)
    rw [← mid_snoc] at ih
    have e : o ++ edO n.length a at_ (x :: post) = o ++ edI at_ a x.f0 n.length 0 ++ edO n.length x.f0 (at_ + x.f1) post := by
      rw [List.append_assoc]
      rfl
    rw [e]
    refine Ev.step (fun k => ?_) (Edges_l1 n r (pre ++ x :: post) ((pre ++ x :: post).length : Int) (pre.length : Int) a at_ x.f0 x.f1 _ ha (by omega) hn n.length 0 o (by omega) (by omega) ?_)
    · simp only [capture_Edges.l0]
      rw [rd_mid, if_pos hlt, if_pos (by omega), if_pos hlt]
      rfl
    · rw [w64 (x := at_ + x.f1) (by omega) (by omega), succ_mid _ _ hnn]
      exact ih
def edV (l : List ByteArray) (r : List S48) : List S42 := if chkV l r = 0 then (match r with | [] => [] | x :: rest => edO l.length x.f0 x.f1 rest) else []
theorem Edges_ev {l : List ByteArray} {r : List S48} (hs : StrsOk l) (hl : l.length ≤ 140737488351232) (hr : r.length ≤ 140737488351232) : Ev (fun k => capture_Edges.f k l r) (edV l r) := by
  have hj : Ev (fun k => capture_Edges.j0 k true l r) [] := Ev.step (f := fun _ => some []) (fun k => by simp only [capture_Edges.j0]; rfl) (Ev.now _)
  unfold edV
  refine Ev.bind (Check_ev hs hl hr) ?_
  by_cases c : chkV l r = 0
  · have h := chk_0 c
    have h16 := nmsV_0 h.2.1
    rw [if_pos c]
    refine Ev.congr (fun k => if_pos c) ?_
    match r, h, hr, hj with
    | [], h, hr, hj => exact hj
    | x :: rest, h, hr, hj =>
      have hx := h.2.2.1.cons
      have hmk := mk_le h16.2
      have h2 := h.2.2.2
      have h3 := smM_nonneg hx.2
      have h4 := h.1
      simp only [List.length_cons] at h4
      rw [sm_cons] at h2
      have he := Edges_l0 (m := mk l) l (x :: rest) h16.2 hmk (x :: rest) [] [] x.f0 0 (by omega) (Int.le_refl 0) (by rw [sm_cons]; omega) h.2.2.1 (by simpa using h.1) (by simp only [List.length_cons, List.length_nil]; omega)
      have e : [] ++ edO l.length x.f0 0 (x :: rest) = edO l.length x.f0 x.f1 rest := by
        show edI 0 x.f0 x.f0 l.length 0 ++ edO l.length x.f0 (0 + x.f1) rest = _
        rw [edI_self, Int.zero_add]
        rfl
      rw [e] at he
      refine Ev.step (fun k => ?_) he
      have e0 : rd_T48 (x :: rest) 0 = x := rd_mid [] rest x
      rw [show (((x :: rest).length : Int) == 0) = false from beq_eq_false_iff_ne.2 (by simp only [List.length_cons]; omega)]
      simp only [capture_Edges.j0]
      rw [if_neg (by decide), if_pos (by simp only [List.length_cons]; omega), e0]
      rfl
  · rw [if_neg c]
    exact Ev.congr (fun k => if_neg c) hj
theorem flipN {v j : Nat} (hv : v < 65536) (hj : j < 16) : Go.bits .xor .i64 (v : Int) (shl .i64 1 (j : Int)) = ((v ^^^ 2 ^ j : Nat) : Int) := by
  have h1 : ∀ j : Fin 16, shl .i64 1 ((j.val : Nat) : Int) = ((2 ^ j.val : Nat) : Int) := by decide +kernel
  have h2 : 2 ^ j < 2 ^ 16 := Nat.pow_lt_pow_right (by omega) hj
  rw [h1 ⟨j, hj⟩]
  exact xorN hv (by omega)
def RunE (n t : Int) : Option S42 → Int → List S42 → Int → Prop
  | _, v, [], w => v = w
  | p, v, e :: l, w => (0 ≤ e.f1 ∧ e.f1 < n ∧ ∀ q, p = some q → q.f0 < e.f0 ∨ q.f0 = e.f0 ∧ q.f1 < e.f1) ∧
      ((e.f0 ≤ t → ¬ bit v e.f1 = e.f2 ∧ RunE n t (some e) (Go.bits .xor .i64 v (shl .i64 1 e.f1)) l w) ∧ (¬ e.f0 ≤ t → RunE n t (some e) v l w))
theorem rde_mid (pre post : List S42) (x : S42) : rd_T42 (pre ++ x :: post) (pre.length : Int) = x := by simp [rd_T42, List.getD]
theorem mide_lt (pre post : List S42) (x : S42) : (pre.length : Int) < ((pre ++ x :: post).length : Int) := by
  simp only [List.length_append, List.length_cons]
  omega
theorem lawEdges_j3 (n : List ByteArray) (r : List S48) (t v w : Int) (pre post : List S42) (e : S42) (hl : (pre ++ e :: post).length ≤ 140737488351232) (h1 : 0 ≤ e.f1)
    (h : e.f0 ≤ t → ¬ bit v e.f1 = e.f2 ∧ Ev (fun k => signalbenchlaw09_CaptureEdges.l0 k t (Go.bits .xor .i64 v (shl .i64 1 e.f1)) w (pre ++ e :: post) ((pre ++ [e]).length : Int) n r) true)
    (h' : ¬ e.f0 ≤ t → Ev (fun k => signalbenchlaw09_CaptureEdges.l0 k t v w (pre ++ e :: post) ((pre ++ [e]).length : Int) n r) true) :
    Ev (fun k => signalbenchlaw09_CaptureEdges.j3 k t v w (pre ++ e :: post) (pre.length : Int) false n r) true := by
  have hlt := mide_lt pre post e
  have hn : pre.length ≤ 9223372036854775806 := by
    simp only [List.length_append, List.length_cons] at hl
    omega
  have hst : ∀ k, signalbenchlaw09_CaptureEdges.j3 (k + 1) t v w (pre ++ e :: post) (pre.length : Int) false n r = if e.f0 ≤ t then (if bit v e.f1 = e.f2 then some false else signalbenchlaw09_CaptureEdges.l0 k t (Go.bits .xor .i64 v (shl .i64 1 e.f1)) w (pre ++ e :: post) ((pre ++ [e]).length : Int) n r) else signalbenchlaw09_CaptureEdges.l0 k t v w (pre ++ e :: post) ((pre ++ [e]).length : Int) n r := by
    intro k
    simp only [signalbenchlaw09_CaptureEdges.j3]
    rw [rde_mid, if_neg (by decide), if_pos (by omega), if_pos hlt, if_pos h1, succ_mid _ _ hn]
    rfl
  by_cases c : e.f0 ≤ t
  · exact Ev.step (fun k => (hst k).trans ((if_pos c).trans (if_neg (h c).1))) (h c).2
  · exact Ev.step (fun k => (hst k).trans (if_neg c)) (h' c)
theorem lawEdges_l0 (n : List ByteArray) (r : List S48) (t w : Int) : ∀ (post q : List S42) (p : S42) (v : Int), ((q ++ [p]) ++ post).length ≤ 140737488351232 → RunE (n.length : Int) t (some p) v post w →
    Ev (fun k => signalbenchlaw09_CaptureEdges.l0 k t v w ((q ++ [p]) ++ post) ((q ++ [p]).length : Int) n r) true
  | [], q, p, v, hl, h => by
    have h : v = w := h
    refine Ev.step (f := fun _ => some (v == w)) (fun k => ?_) ?_
    · simp only [signalbenchlaw09_CaptureEdges.l0]
      rw [if_neg (by simp)]
    · rw [h, beq_self_eq_true]
      exact Ev.now _
  | e :: post, q, p, v, hl, h => by
    obtain ⟨⟨h1, h2, h3⟩, h4, h5⟩ := h
    have h3 := h3 p rfl
    have hlt := mide_lt (q ++ [p]) post e
    have hlp : (q.length : Int) < (((q ++ [p]) ++ e :: post).length : Int) := by
      simp only [List.length_append, List.length_cons, List.length_nil]
      omega
    have ep : rd_T42 ((q ++ [p]) ++ e :: post) (q.length : Int) = p := by
      rw [← mid_snoc q (e :: post) p]
      exact rde_mid q (e :: post) p
    have hq : q.length ≤ 9223372036854775806 := by
      simp only [List.length_append, List.length_cons] at hl
      omega
    have eq1 : wrap64 (((q ++ [p]).length : Int) - 1) = (q.length : Int) := by
      rw [w64 (by simp only [List.length_append, List.length_cons, List.length_nil]; omega) (by simp only [List.length_append, List.length_cons, List.length_nil]; omega)]
      simp
    have hpos : ((q ++ [p]).length : Int) > 0 := by
      simp only [List.length_append, List.length_cons, List.length_nil]
      omega
    have hst : ∀ k, signalbenchlaw09_CaptureEdges.l0 (k + 1) t v w ((q ++ [p]) ++ e :: post) ((q ++ [p]).length : Int) n r = signalbenchlaw09_CaptureEdges.j3 k t v w ((q ++ [p]) ++ e :: post) ((q ++ [p]).length : Int) false n r := by
      intro k
      simp only [signalbenchlaw09_CaptureEdges.l0]
      rw [rde_mid, eq1, ep, if_pos hlt, if_pos (by omega), if_neg (by omega), if_neg (by omega), if_pos hpos, if_pos (by omega), if_pos hlp, if_neg (by omega)]
      by_cases c : e.f0 = p.f0
      · rw [if_pos c, decide_eq_false (by omega)]
      · rw [if_neg c]
    refine Ev.step hst (lawEdges_j3 n r t v w (q ++ [p]) post e hl h1 (fun c => ⟨(h4 c).1, ?_⟩) (fun c => ?_))
    · have ih := lawEdges_l0 n r t w post (q ++ [p]) e _ (by rw [← mid_snoc (q ++ [p]) post e]; exact hl) (h4 c).2
      rw [← mid_snoc (q ++ [p]) post e] at ih
      exact ih
    · have ih := lawEdges_l0 n r t w post (q ++ [p]) e _ (by rw [← mid_snoc (q ++ [p]) post e]; exact hl) (h5 c)
      rw [← mid_snoc (q ++ [p]) post e] at ih
      exact ih
theorem lawEdges_start (n : List ByteArray) (r : List S48) (t v w : Int) : ∀ (l : List S42), l.length ≤ 140737488351232 → RunE (n.length : Int) t none v l w →
    Ev (fun k => signalbenchlaw09_CaptureEdges.l0 k t v w l 0 n r) true
  | [], hl, h => by
    have h : v = w := h
    refine Ev.step (f := fun _ => some (v == w)) (fun k => ?_) ?_
    · simp only [signalbenchlaw09_CaptureEdges.l0]
      rw [if_neg (by simp)]
    · rw [h, beq_self_eq_true]
      exact Ev.now _
  | e :: post, hl, h => by
    obtain ⟨⟨h1, h2, h3⟩, h4, h5⟩ := h
    have hlt : (0 : Int) < ((e :: post).length : Int) := by
      simp only [List.length_cons]
      omega
    have e0 : rd_T42 (e :: post) 0 = e := rde_mid [] post e
    have hst : ∀ k, signalbenchlaw09_CaptureEdges.l0 (k + 1) t v w (e :: post) 0 n r = signalbenchlaw09_CaptureEdges.j3 k t v w (e :: post) 0 false n r := by
      intro k
      simp only [signalbenchlaw09_CaptureEdges.l0]
      rw [e0, if_pos hlt, if_pos (Int.le_refl 0), if_neg (by omega), if_neg (by omega), if_neg (by omega)]
    exact Ev.step hst (lawEdges_j3 n r t v w [] post e hl h1 (fun c => ⟨(h4 c).1, lawEdges_l0 n r t w post [] e _ hl (h4 c).2⟩) (fun c => lawEdges_l0 n r t w post [] e _ hl (h5 c)))
theorem runE_now {n : Nat} {t at_ : Int} {a b : Nat} (hn : n ≤ 16) (ha : a < 2 ^ n) (hb : b < 2 ^ n) (ht : at_ ≤ t) (tail : List S42) (w : Int) (hT : ∀ p', (∀ q, p' = some q → q.f0 ≤ at_) → RunE (n : Int) t p' (b : Int) tail w) :
    ∀ (m j : Nat) (p : Option S42) (v : Nat), j + m = n → v < 65536 → (∀ q, p = some q → q.f0 < at_ ∨ q.f0 = at_ ∧ q.f1 < (j : Int)) → (∀ k, v.testBit k = if k < j then b.testBit k else a.testBit k) →
      RunE (n : Int) t p (v : Int) (edI at_ (a : Int) (b : Int) m j ++ tail) w
  | 0, j, p, v, hj, hv, hp, hb' => by
    have e : v = b := by
      refine Nat.eq_of_testBit_eq fun k => ?_
      rw [hb' k]
      by_cases c : k < j
      · rw [if_pos c]
      · rw [if_neg c, Nat.testBit_lt_two_pow (Nat.lt_of_lt_of_le ha (Nat.pow_le_pow_right (by omega) (by omega))), Nat.testBit_lt_two_pow (Nat.lt_of_lt_of_le hb (Nat.pow_le_pow_right (by omega) (by omega)))]
    rw [e]
    exact hT p (fun q hq => by have := hp q hq; omega)
  | m + 1, j, p, v, hj, hv, hp, hb' => by
    have h16 : 2 ^ n ≤ 2 ^ 16 := Nat.pow_le_pow_right (by omega) hn
    have hj16 : j < 16 := by omega
    have ea := bitN (a := a) (i := j) (by omega) (by omega)
    have eb := bitN (a := b) (i := j) (by omega) (by omega)
    have ev := bitN (a := v) (i := j) hv (by omega)
    have hvj := hb' j
    rw [if_neg (Nat.lt_irrefl j)] at hvj
    by_cases c : bit (a : Int) (j : Int) = bit (b : Int) (j : Int)
    · have e1 : edI at_ (a : Int) (b : Int) (m + 1) j = edI at_ (a : Int) (b : Int) m (j + 1) := if_pos c
      rw [e1]
      refine runE_now hn ha hb ht tail w hT m (j + 1) p v (by omega) hv (fun q hq => by have := hp q hq; omega) (fun k => ?_)
      rw [hb' k]
      by_cases c1 : k = j
      · subst c1
        rw [if_neg (Nat.lt_irrefl k), if_pos (Nat.lt_succ_self k)]
        rw [ea, eb] at c
        revert c
        cases a.testBit k <;> cases b.testBit k <;> simp
      · by_cases c2 : k < j
        · rw [if_pos c2, if_pos (by omega)]
        · rw [if_neg c2, if_neg (by omega)]
    · have e1 : edI at_ (a : Int) (b : Int) (m + 1) j = (⟨at_, (j : Int), bit (b : Int) (j : Int)⟩ : S42) :: edI at_ (a : Int) (b : Int) m (j + 1) := if_neg c
      rw [e1]
      refine ⟨⟨Int.natCast_nonneg j, (by show (j : Int) < (n : Int); omega), fun q hq => hp q hq⟩, fun _ => ⟨?_, ?_⟩, fun h => absurd ht h⟩
      · show ¬ bit (v : Int) (j : Int) = bit (b : Int) (j : Int)
        rw [ev, hvj, ← ea]
        exact c
      · show RunE (n : Int) t (some _) (Go.bits .xor .i64 (v : Int) (shl .i64 1 (j : Int))) (edI at_ (a : Int) (b : Int) m (j + 1) ++ tail) w
        rw [flipN hv hj16]
        have hx : v ^^^ 2 ^ j < 2 ^ 16 := Nat.xor_lt_two_pow (by omega) (Nat.pow_lt_pow_right (by omega) hj16)
        refine runE_now hn ha hb ht tail w hT m (j + 1) _ (v ^^^ 2 ^ j) (by omega) (by omega) (fun q hq => ?_) (fun k => ?_)
        · obtain rfl := Option.some.inj hq
          right
          exact ⟨rfl, by show (j : Int) < ((j + 1 : Nat) : Int); omega⟩
        · rw [Nat.testBit_xor, hb' k, Nat.testBit_two_pow]
          by_cases c1 : k = j
          · subst c1
            rw [if_neg (Nat.lt_irrefl k), if_pos (Nat.lt_succ_self k)]
            rw [ea, eb] at c
            revert c
            cases a.testBit k <;> cases b.testBit k <;> simp
          · rw [decide_eq_false (fun h => c1 h.symm), Bool.xor_false]
            by_cases c2 : k < j
            · rw [if_pos c2, if_pos (by omega)]
            · rw [if_neg c2, if_neg (by omega)]
theorem runE_late {n : Nat} {t at_ v : Int} {a b : Int} (hn : n ≤ 16) (ht : ¬ at_ ≤ t) (tail : List S42) (w : Int) (hT : ∀ p', (∀ q, p' = some q → q.f0 ≤ at_) → RunE (n : Int) t p' v tail w) :
    ∀ (m j : Nat) (p : Option S42), j + m = n → (∀ q, p = some q → q.f0 < at_ ∨ q.f0 = at_ ∧ q.f1 < (j : Int)) → RunE (n : Int) t p v (edI at_ a b m j ++ tail) w
  | 0, j, p, hj, hp => hT p (fun q hq => by have := hp q hq; omega)
  | m + 1, j, p, hj, hp => by
    by_cases c : bit a (j : Int) = bit b (j : Int)
    · have e1 : edI at_ a b (m + 1) j = edI at_ a b m (j + 1) := if_pos c
      rw [e1]
      exact runE_late hn ht tail w hT m (j + 1) p (by omega) (fun q hq => by have := hp q hq; omega)
    · have e1 : edI at_ a b (m + 1) j = (⟨at_, (j : Int), bit b (j : Int)⟩ : S42) :: edI at_ a b m (j + 1) := if_neg c
      rw [e1]
      refine ⟨⟨Int.natCast_nonneg j, (by show (j : Int) < (n : Int); omega), fun q hq => hp q hq⟩, fun h => absurd h ht, fun _ => ?_⟩
      refine runE_late hn ht tail w hT m (j + 1) _ (by omega) (fun q hq => ?_)
      obtain rfl := Option.some.inj hq
      right
      exact ⟨rfl, by show (j : Int) < ((j + 1 : Nat) : Int); omega⟩
theorem runE_edO {n : Nat} {m t w : Int} (hn : n ≤ 16) (hm : m < ((2 ^ n : Nat) : Int)) : ∀ (l : List S48) (a at_ v : Int) (p : Option S42), (0 ≤ a ∧ a ≤ m) → RunsM m l → (∀ q, p = some q → q.f0 < at_) →
    (at_ ≤ t → v = a ∧ t - at_ < sm l ∧ w = (atS l (t - at_)).1) → (¬ at_ ≤ t → v = w) → RunE (n : Int) t p v (edO n a at_ l) w
  | [], a, at_, v, p, ha, hl, hp, h1, h2 => by
    show v = w
    by_cases c : at_ ≤ t
    · have := (h1 c).2.1
      rw [sm_nil] at this
      omega
    · exact h2 c
  | x :: l, a, at_, v, p, ha, hl, hp, h1, h2 => by
    have hx := hl.cons
    show RunE (n : Int) t p v (edI at_ a x.f0 n 0 ++ edO n x.f0 (at_ + x.f1) l) w
    by_cases c : at_ ≤ t
    · obtain ⟨rfl, h3, h4⟩ := h1 c
      rw [sm_cons] at h3
      rw [atS_cons] at h4
      obtain ⟨A, rfl⟩ := Int.eq_ofNat_of_zero_le ha.1
      obtain ⟨B, hB⟩ := Int.eq_ofNat_of_zero_le hx.1.1
      have h16 : 2 ^ n ≤ 2 ^ 16 := Nat.pow_le_pow_right (by omega) hn
      rw [hB]
      refine runE_now hn (by omega) (by omega) c _ w (fun p' hp' => ?_) n 0 p A (by omega) (by omega) (fun q hq => .inl (hp q hq)) (fun k => by rw [if_neg (by omega)])
      refine runE_edO hn hm l (B : Int) (at_ + x.f1) (B : Int) p' (by omega) hx.2 (fun q hq => by have := hp' q hq; omega) (fun c1 => ⟨rfl, by omega, ?_⟩) (fun c1 => ?_)
      · rw [h4, if_neg (by omega), show t - (at_ + x.f1) = t - at_ - x.f1 by omega]
      · rw [h4, if_pos (by omega)]
        exact hB.symm
    · refine runE_late hn c _ w (fun p' hp' => ?_) n 0 p (by omega) (fun q hq => .inl (hp q hq))
      exact runE_edO hn hm l x.f0 (at_ + x.f1) v p' ⟨hx.1.1, hx.1.2.1⟩ hx.2 (fun q hq => by have := hp' q hq; omega) (fun c1 => by omega) (fun _ => h2 c)
theorem mk_lt {l : List ByteArray} (h : l.length ≤ 16) : mk l < ((2 ^ l.length : Nat) : Int) := by
  unfold mk
  generalize l.length = n at h ⊢
  have : ∀ n : Fin 17, wrap64 ((shl .i64 1 ((n.val : Nat) : Int)) - 1) < ((2 ^ n.val : Nat) : Int) := by decide +kernel
  exact this ⟨n, by omega⟩
theorem edO_len (n : Nat) : ∀ (l : List S48) (a at_ : Int), (edO n a at_ l).length ≤ n * l.length
  | [], a, at_ => by simp [edO]
  | x :: l, a, at_ => by
    have h1 := edI_len at_ a x.f0 n 0
    have h2 := edO_len n l x.f0 (at_ + x.f1)
    show (edI at_ a x.f0 n 0 ++ edO n x.f0 (at_ + x.f1) l).length ≤ _
    rw [List.length_append, List.length_cons, Nat.mul_succ]
    omega
theorem CaptureEdges_pure {l : List ByteArray} {r : List S48} {t : Int} (hs : StrsOk l) (ht : (Lit.int .i64 t).wf = true) : ∃ k, signalbenchlaw09_CaptureEdges.f k l r t = some true := by
  have ht' := wf64 ht
  have hj : Ev (fun k => signalbenchlaw09_CaptureEdges.j0 k t true l r) true := Ev.step (f := fun _ => some true) (fun k => by simp only [signalbenchlaw09_CaptureEdges.j0]; rfl) (Ev.now _)
  refine Ev.rounds (Ev.bind lives09_ev (Ev.congr (fun k => if_pos rfl) ?_))
  rw [few09_eq]
  refine Ev.congr (fun k => Option.bind_some _ _) ?_
  by_cases c : fewV l r = true
  · have hf : l.length ≤ 100 ∧ r.length ≤ 2000 := of_decide_eq_true c
    have hl : l.length ≤ 140737488351232 := by omega
    have hr : r.length ≤ 140737488351232 := by omega
    refine Ev.congr (fun k => if_pos c) (Ev.bind (Check_ev hs hl hr) ?_)
    by_cases c1 : chkV l r = 0
    · have h := chk_0 c1
      have h16 := nmsV_0 h.2.1
      have eL : longC l r = sm r := if_pos c1
      refine Ev.congr (fun k => if_pos c1) ?_
      by_cases c2 : t < 0
      · exact Ev.congr (fun k => if_pos c2) hj
      · refine Ev.congr (fun k => if_neg c2) (Ev.bind (Long_ev hs hl hr) ?_)
        rw [eL]
        by_cases c3 : t ≥ sm r
        · rw [decide_eq_true c3]
          exact hj
        · rw [decide_eq_false c3]
          match r, h, hr, c1, c3, hf with
          | [], h, hr, c1, c3, hf =>
            rw [sm_nil] at c3
            omega
          | x :: rest, h, hr, c1, c3, hf =>
            have hx := h.2.2.1.cons
            have hsm := h.2.2.2
            rw [sm_cons] at c3 hsm
            have eA0 : atC l (x :: rest) 0 = (x.f0, true) := by
              unfold atC
              rw [if_neg (by omega), if_pos c1, atS_cons, if_pos (by omega)]
            have eA : atC l (x :: rest) t = atS (x :: rest) t := by
              unfold atC
              rw [if_neg c2, if_pos c1]
            have hin : (atS (x :: rest) t).2 = true := atS_in h.2.2.1 (by omega) (by rw [sm_cons]; omega)
            have hb2 : (!(atS (x :: rest) t).2) = false := by rw [hin]; rfl
            have eE : edV l (x :: rest) = edO l.length x.f0 x.f1 rest := if_pos c1
            have hlen : (edO l.length x.f0 x.f1 rest).length ≤ 140737488351232 := by
              have h1 := edO_len l.length rest x.f0 x.f1
              have h2 : l.length * rest.length ≤ 16 * rest.length := Nat.mul_le_mul_right _ h16.2
              have h3 := hf.2
              simp only [List.length_cons] at h3
              omega
            have hrun : RunE (l.length : Int) t none x.f0 (edO l.length x.f0 x.f1 rest) (atS (x :: rest) t).1 := by
              refine runE_edO h16.2 (mk_lt h16.2) rest x.f0 x.f1 x.f0 none ⟨hx.1.1, hx.1.2.1⟩ hx.2 (fun q hq => by cases hq) (fun c4 => ⟨rfl, by omega, ?_⟩) (fun c4 => ?_)
              · rw [atS_cons, if_neg (by omega)]
              · rw [atS_cons, if_pos (by omega)]
            have hgo := lawEdges_start l (x :: rest) t x.f0 (atS (x :: rest) t).1 (edO l.length x.f0 x.f1 rest) hlen hrun
            refine Ev.step (f := fun k => (capture_At.f k l (x :: rest) 0).bind fun bt342 => ((capture_At.f k l (x :: rest) t).bind fun bt344 => (if bt342.2 = true then (signalbenchlaw09_CaptureEdges.j1 k t bt342.1 bt344.1 (!bt344.2) l (x :: rest)) else (signalbenchlaw09_CaptureEdges.j1 k t bt342.1 bt344.1 true l (x :: rest))))) (fun k => ?_) (Ev.bind (At_ev hs hl hr (by omega)) (Ev.bind (At_ev hs hl hr (by omega)) ?_))
            · simp only [signalbenchlaw09_CaptureEdges.j0]
              rw [if_neg (by decide)]
            · rw [eA0, eA, hb2]
              refine Ev.congr (fun k => if_pos rfl) ?_
              refine Ev.step (f := fun k => (capture_Edges.f k l (x :: rest)).bind fun t346 => (signalbenchlaw09_CaptureEdges.l0 k t x.f0 (atS (x :: rest) t).1 t346 0 l (x :: rest))) (fun k => ?_) (Ev.bind (Edges_ev hs hl hr) ?_)
              · simp only [signalbenchlaw09_CaptureEdges.j1]
                rw [if_neg (by decide)]
              · rw [eE]
                exact hgo
    · exact Ev.congr (fun k => if_neg c1) hj
  · exact Ev.congr (fun k => if_neg c) hj
end Go.Proofs.Yteafkdadpdofjaa
