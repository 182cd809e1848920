/- The law RemapScales as a plain statement on numbers and lists: with enough rounds it answers true; conditions: each number is one of its kind, no list or string is longer than its memory allows. -/
import Derived.Laws.BitsAllLaws
import Derived.WalkKit
import Derived.Test.YtllpgidmdomfcaaWMore
import Derived.Laws.Strings
import Derived.Test.YtllpgidmdomfcaaQx0
import Derived.Test.YtllpgidmdomfcaaQx2
import Derived.Test.YtllpgidmdomfcaaQx3
import Derived.Test.YtllpgidmdomfcaaQx4
import Derived.Test.YtllpgidmdomfcaaQx5
import Derived.Test.YtllpgidmdomfcaaQx6
import Derived.Test.YtllpgidmdomfcaaQx7
import Derived.Test.YtllpgidmdomfcaaQx8
import Derived.Test.YtllpgidmdomfcaaQx9
import Derived.Test.YtllpgidmdomfcaaQx11
import Derived.Test.YtllpgidmdomfcaaQx12
import Derived.Test.YtllpgidmdomfcaaQx15
import Derived.Test.YtllpgidmdomfcaaQx16
import Derived.Test.YtllpgidmdomfcaaQx17
import Derived.Test.YtllpgidmdomfcaaQx18
import Derived.Test.YtllpgidmdomfcaaQx19
import Derived.Test.YtllpgidmdomfcaaQx20
import Derived.Test.YtllpgidmdomfcaaQx29
import Derived.Test.YtllpgidmdomfcaaQx33
import Derived.Test.YtllpgidmdomfcaaQx37
namespace Go.Proofs.Ytllpgidmdomfcaa
open Go Go.RowKit Go.Proofs.YtllpgidmdomfcaaW.PrintWords Go.Proofs.YtllpgidmdomfcaaW.PrintLast Go.Proofs.Ytllpgidmdomfcaa.Q
set_option linter.unusedVariables false
theorem w64 {x : Int} (h0 : -9223372036854775808 ≤ x) (h1 : x ≤ 9223372036854775807) : wrap64 x = x := by
  unfold wrap64
  omega
theorem wf64 {x : Int} (h : (Lit.int .i64 x).wf = true) : -9223372036854775808 ≤ x ∧ x ≤ 9223372036854775807 := by
  simp [Lit.wf, IntKind.min, IntKind.max, IntKind.bits, IntKind.signed] at h
  omega
theorem succ_mid {α : Type} (pre : List α) (x : α) (h : pre.length ≤ 9223372036854775806) : wrap64 ((pre.length : Int) + 1) = ((pre ++ [x]).length : Int) := by
  rw [w64 (by omega) (by omega)]
  simp
theorem mid_snoc {α : Type} (pre post : List α) (x : α) : pre ++ x :: post = (pre ++ [x]) ++ post := by simp
def sm : List S48 → Int
  | [] => 0
  | x :: l => x.f1 + sm l
def RunsOk (l : List S48) : Prop := ∀ x ∈ l, (x.f0 = 0 ∨ x.f0 = 1) ∧ 1 ≤ x.f1
theorem rd_mid (pre post : List S48) (x : S48) : rd_T48 (pre ++ x :: post) (pre.length : Int) = x := by simp [rd_T48, List.getD]
theorem mid_lt (pre post : List S48) (x : S48) : (pre.length : Int) < ((pre ++ x :: post).length : Int) := by
  simp only [List.length_append, List.length_cons]
  omega
theorem sm_append : ∀ (a b : List S48), sm (a ++ b) = sm a + sm b
  | [], b => by simp [sm]
  | x :: a, b => by
    have := sm_append a b
    simp only [List.cons_append, sm]
    omega
theorem RunsOk.cons {x : S48} {l : List S48} (h : RunsOk (x :: l)) : ((x.f0 = 0 ∨ x.f0 = 1) ∧ 1 ≤ x.f1) ∧ RunsOk l := ⟨h x (by simp), fun y hy => h y (by simp [hy])⟩
theorem RunsOk.left {a b : List S48} (h : RunsOk (a ++ b)) : RunsOk a := fun x hx => h x (List.mem_append_left _ hx)
def atS : List S48 → Int → Int × Bool
  | [], _ => (-1, false)
  | x :: l, t => if t < x.f1 then (x.f0, true) else atS l (t - x.f1)
def jnc (x : S48) : List S48 → List S48
  | [] => [x]
  | y :: l => if x.f0 = y.f0 then jnc ⟨x.f0, x.f1 + y.f1⟩ l else x :: jnc y l
def jn : List S48 → List S48
  | [] => []
  | x :: l => jnc x l
theorem last_at (o : List S48) (x : S48) (h : o.length ≤ 9223372036854775806) : wrap64 (((o ++ [x]).length : Int) - 1) = (o.length : Int) := by
  rw [w64 (by simp only [List.length_append, List.length_cons, List.length_nil]; omega) (by simp only [List.length_append, List.length_cons, List.length_nil]; omega)]
  simp
theorem rd_last (o : List S48) (x : S48) : rd_T48 (o ++ [x]) (o.length : Int) = x := rd_mid o [] x
theorem set_last (o : List S48) (x y : S48) : (o ++ [x]).set ((o.length : Int)).toNat y = o ++ [y] := by
  rw [Int.toNat_natCast, List.set_append_right _ _ (Nat.le_refl _), Nat.sub_self]
  rfl
/-- No two runs of one level side by side: behind a run of level p. -/
def apartF : Int → List S48 → Prop
  | _, [] => True
  | p, x :: l => p ≠ x.f0 ∧ apartF x.f0 l
def apart : List S48 → Prop
  | [] => True
  | x :: l => apartF x.f0 l
theorem jnc_head : ∀ (l : List S48) (x : S48), ∃ t m, jnc x l = ⟨x.f0, t⟩ :: m
  | [], x => ⟨x.f1, [], rfl⟩
  | y :: l, x => by
    unfold jnc
    split
    · exact jnc_head l ⟨x.f0, x.f1 + y.f1⟩
    · exact ⟨x.f1, _, rfl⟩
theorem jnc_apart : ∀ (l : List S48) (x : S48), apart (jnc x l)
  | [], x => trivial
  | y :: l, x => by
    unfold jnc
    split
    · exact jnc_apart l _
    · rename_i c
      obtain ⟨t, m, e⟩ := jnc_head l y
      have h := jnc_apart l y
      rw [e] at h ⊢
      exact ⟨c, h⟩
theorem jn_apart (l : List S48) : apart (jn l) := by
  cases l with
  | nil => trivial
  | cons x l => exact jnc_apart l x
theorem jnc_of_apart : ∀ (l : List S48) (x : S48), apartF x.f0 l → jnc x l = x :: l
  | [], x, _ => rfl
  | y :: l, x, h => by
    unfold jnc
    rw [if_neg h.1, jnc_of_apart l y h.2]
theorem jn_of_apart {l : List S48} (h : apart l) : jn l = l := by
  cases l with
  | nil => rfl
  | cons x l => exact jnc_of_apart l x h
theorem jn_jn (l : List S48) : jn (jn l) = jn l := jn_of_apart (jn_apart l)
theorem ratio_common_ev : ∀ (b a : Nat), Ev (fun k => ratio_common.f k (a : Int) (b : Int)) ((Nat.gcd a b : Nat) : Int) := by
  intro b
  induction b using Nat.strongRecOn with
  | _ b ih =>
    intro a
    refine Ev.congr (f := fun k => ratio_common.l0 k (a : Int) (b : Int)) (fun k => rfl) ?_
    by_cases c : b = 0
    · subst c
      rw [Nat.gcd_zero_right]
      refine Ev.step (f := fun _ => some (a : Int)) (fun k => ?_) (Ev.now _)
      simp only [ratio_common.l0]
      rw [if_pos (by omega)]
    · have h := ih (a % b) (Nat.mod_lt _ (by omega)) b
      rw [show Nat.gcd a b = Nat.gcd b (a % b) by rw [Nat.gcd_comm a b, Nat.gcd_rec b a, Nat.gcd_comm]]
      refine Ev.step (fun k => ?_) h
      simp only [ratio_common.l0]
      rw [if_neg (by omega)]
      rfl
theorem size_abs {n : Int} (h : (Lit.int .i64 n).wf = true) : (if n < 0 then (some (IntKind.u64.wrap ((IntKind.u64.wrap (wrap64 (-(wrap64 (n + 1))))) + 1))) else (some (IntKind.u64.wrap n))) = some ((n.natAbs : Nat) : Int) := by
  have hw := wf64 h
  by_cases c : n < 0
  · rw [if_pos c, w64 (x := n + 1) (by omega) (by omega), w64 (by omega) (by omega), IntKind.wrap_u64, IntKind.wrap_u64]
    congr 1
    omega
  · rw [if_neg c, IntKind.wrap_u64]
    congr 1
    omega
def wd (c : Int) : Bool := if 97 ≤ c ∧ c ≤ 122 then true else if 48 ≤ c ∧ c ≤ 57 then true else if c = 95 then true else false
def wAll (s : ByteArray) : Nat → Nat → Bool
  | 0, _ => true
  | m + 1, i => if wd (bt s (i : Int)) = true then wAll s m (i + 1) else false
def nmOk (s : ByteArray) : Bool := if s.size = 0 then false else if 16 < s.size then false else if 97 ≤ bt s 0 ∧ bt s 0 ≤ 122 then wAll s s.size 0 else false
theorem w32 {x : Int} (h0 : 0 ≤ x) (h1 : x ≤ 255) : wrap32 x = x := by
  unfold wrap32
  omega
theorem nil_iff (s : ByteArray) : s.toList = ([] : List UInt8) ↔ s.size = 0 := by
  rw [ByteArray.toList_eq, ← List.length_eq_zero_iff, data_length]
theorem lex_letter_eq (c : Int) : lex_letter.f c = some (decide (97 ≤ c ∧ c ≤ 122)) := by
  unfold lex_letter.f
  by_cases h : 97 ≤ c <;> simp [h]
theorem lex_word_eq (c : Int) : lex_word.f c = some (wd c) := by
  unfold lex_word.f lex_digit.f wd
  rw [lex_letter_eq]
  by_cases h : 97 ≤ c ∧ c ≤ 122
  · simp [h]
  · by_cases h1 : 48 ≤ c
    · by_cases h2 : c ≤ 57
      · simp [h, h1, h2]
      · by_cases h3 : c = 95 <;> simp [h, h1, h2, h3]
    · by_cases h3 : c = 95 <;> simp [h, h1, h3]
theorem lex_Name_l0 (s : ByteArray) (hs : s.size ≤ 140737488351232) : ∀ (m i : Nat), i + m = s.size → Ev (fun k => lex_Name.l0 k s (s.size : Int) (i : Int)) (wAll s m i)
  | 0, i, h => by
    refine Ev.step (f := fun _ => some true) (fun k => ?_) (Ev.now _)
    simp only [lex_Name.l0]
    rw [if_neg (by omega)]
  | m + 1, i, h => by
    have hb := bt_range s (i : Int)
    have hst : ∀ k, lex_Name.l0 (k + 1) s (s.size : Int) (i : Int) = if wd (bt s (i : Int)) = true then lex_Name.l0 k s (s.size : Int) ((i + 1 : Nat) : Int) else some false := by
      intro k
      simp only [lex_Name.l0]
      rw [if_pos (by omega), if_pos (by omega), if_pos (by omega), lex_word_eq, w32 hb.1 hb.2, Option.bind_some, w64 (by omega) (by omega)]
      rfl
    unfold wAll
    by_cases c : wd (bt s (i : Int)) = true
    · rw [if_pos c]
      exact Ev.step (fun k => (hst k).trans (if_pos c)) (lex_Name_l0 s hs m (i + 1) (by omega))
    · rw [if_neg c]
      exact Ev.step (fun k => (hst k).trans (if_neg c)) (Ev.now _)
theorem lex_Name_ev (s : ByteArray) (hs : s.size ≤ 140737488351232) : Ev (fun k => lex_Name.f k s) (nmOk s) := by
  have hb := bt_range s 0
  have hj : Ev (fun k => lex_Name.j0 k s true) false := Ev.step (f := fun _ => some false) (fun k => by simp only [lex_Name.j0]; rfl) (Ev.now _)
  unfold nmOk
  by_cases h0 : s.size = 0
  · rw [if_pos h0]
    refine Ev.congr (fun k => ?_) hj
    unfold lex_Name.f
    rw [if_pos ((nil_iff s).2 h0)]
  · rw [if_neg h0]
    have hn : ¬ s.toList = [] := fun h => h0 ((nil_iff s).1 h)
    by_cases h1 : 16 < s.size
    · rw [if_pos h1]
      refine Ev.congr (fun k => ?_) hj
      unfold lex_Name.f
      rw [if_neg hn, if_pos (by omega)]
    · rw [if_neg h1]
      have e : ∀ k, lex_Name.f k s = lex_Name.j0 k s (!(decide (97 ≤ bt s 0 ∧ bt s 0 ≤ 122))) := by
        intro k
        unfold lex_Name.f
        rw [if_neg hn, if_neg (by omega), if_pos (by omega), lex_letter_eq, w32 hb.1 hb.2]
        rfl
      refine Ev.congr e ?_
      by_cases h2 : 97 ≤ bt s 0 ∧ bt s 0 ≤ 122
      · rw [if_pos h2, decide_eq_true h2]
        refine Ev.step (fun k => ?_) (lex_Name_l0 s hs s.size 0 (by omega))
        simp only [lex_Name.j0]
        rw [if_neg (by decide)]
        rfl
      · rw [if_neg h2, decide_eq_false h2]
        exact hj
def StrsOk (l : List ByteArray) : Prop := ∀ s ∈ l, s.size ≤ 140737488351232
def nmA : List ByteArray → Bool
  | [] => true
  | s :: l => if nmOk s = true then nmA l else false
theorem rds_mid (pre post : List ByteArray) (x : ByteArray) : rdOf ByteArray.empty (pre ++ x :: post) (pre.length : Int) = x := by simp [rdOf, List.getD]
theorem mids_lt (pre post : List ByteArray) (x : ByteArray) : (pre.length : Int) < ((pre ++ x :: post).length : Int) := by
  simp only [List.length_append, List.length_cons]
  omega
/-- The first place of a name, or -1. -/
def ixS (s : ByteArray) : Nat → List ByteArray → Int
  | _, [] => -1
  | n, t :: l => if s.toList = t.toList then (n : Int) else ixS s (n + 1) l
theorem Index_l0 (s : ByteArray) : ∀ (post pre : List ByteArray), (pre ++ post).length ≤ 140737488351232 →
    Ev (fun k => slices_Index_string.l0 k (pre ++ post) s ((pre ++ post).length : Int) (pre.length : Int)) (ixS s pre.length post)
  | [], pre, hl => by
    refine Ev.step (f := fun _ => some (-1)) (fun k => ?_) (Ev.now _)
    simp only [slices_Index_string.l0]
    rw [if_neg (by simp)]
  | x :: post, pre, hl => by
    have hlt := mids_lt pre post x
    have hn : pre.length ≤ 9223372036854775806 := by
      simp only [List.length_append, List.length_cons] at hl
      omega
    have hst : ∀ k, slices_Index_string.l0 (k + 1) (pre ++ x :: post) s ((pre ++ x :: post).length : Int) (pre.length : Int) = if s.toList = x.toList then some (pre.length : Int) else slices_Index_string.l0 k (pre ++ x :: post) s ((pre ++ x :: post).length : Int) ((pre ++ [x]).length : Int) := by
      intro k
      simp only [slices_Index_string.l0]
      rw [rds_mid, if_pos hlt, if_pos (by omega), if_pos hlt, succ_mid _ _ hn]
    unfold ixS
    by_cases c : s.toList = x.toList
    · rw [if_pos c]
      exact Ev.step (fun k => (hst k).trans (if_pos c)) (Ev.now _)
    · rw [if_neg c]
      have ih := Index_l0 s post (pre ++ [x]) (by simpa using hl)
      rw [← mid_snoc] at ih
      have e : (pre ++ [x]).length = pre.length + 1 := by simp
      rw [e] at ih
      refine Ev.step (fun k => (hst k).trans (if_neg c)) ?_
      rw [e]
      exact ih
theorem Index_ev (l : List ByteArray) (s : ByteArray) (hl : l.length ≤ 140737488351232) : Ev (fun k => slices_Index_string.f k l s) (ixS s 0 l) := Ev.congr (fun k => rfl) (Index_l0 s l [] (by simpa using hl))
theorem Contains_ev (l : List ByteArray) (s : ByteArray) (hl : l.length ≤ 140737488351232) : Ev (fun k => slices_Contains_string.f k l s) (decide (ixS s 0 l ≥ 0)) := Ev.bind (Index_ev l s hl) (Ev.now _)
def dupS : List ByteArray → List ByteArray → Bool
  | _, [] => false
  | pre, x :: post => if ixS x 0 pre ≥ 0 then true else dupS (pre ++ [x]) post
def nmsV (l : List ByteArray) : Int := if 16 < l.length then 6 else if l.length = 0 then 1 else if nmA l = true then (if dupS [] l = true then 9 else 0) else 4
theorem checkNames_l1 : ∀ (post pre : List ByteArray), (pre ++ post).length ≤ 140737488351232 →
    Ev (fun k => capture_checkNames.l1 k (pre ++ post) (pre ++ post) ((pre ++ post).length : Int) (pre.length : Int)) (if dupS pre post = true then 9 else 0)
  | [], pre, hl => by
    refine Ev.step (f := fun _ => some 0) (fun k => ?_) ?_
    · simp only [capture_checkNames.l1]
      rw [if_neg (by simp)]
    · rw [show (if dupS pre [] = true then (9 : Int) else 0) = 0 from rfl]
      exact Ev.now _
  | x :: post, pre, hl => by
    have hlt := mids_lt pre post x
    have hn : pre.length ≤ 9223372036854775806 := by
      simp only [List.length_append, List.length_cons] at hl
      omega
    have hp : pre.length ≤ 140737488351232 := by
      simp only [List.length_append, List.length_cons] at hl
      omega
    have hst : ∀ k, capture_checkNames.l1 (k + 1) (pre ++ x :: post) (pre ++ x :: post) ((pre ++ x :: post).length : Int) (pre.length : Int) = (slices_Contains_string.f k pre x).bind fun t111 => (if t111 = true then (some 9) else (capture_checkNames.l1 k (pre ++ x :: post) (pre ++ x :: post) ((pre ++ x :: post).length : Int) ((pre ++ [x]).length : Int))) := by
      intro k
      simp only [capture_checkNames.l1]
      rw [rds_mid, if_pos hlt, if_pos (by omega), if_pos hlt, if_pos (by omega), succ_mid _ _ hn, Int.toNat_natCast, List.take_left' rfl]
    refine Ev.step hst (Ev.bind (Contains_ev pre x hp) ?_)
    unfold dupS
    by_cases c : ixS x 0 pre ≥ 0
    · rw [if_pos c, decide_eq_true c]
      exact Ev.congr (fun k => if_pos rfl) (Ev.now _)
    · rw [if_neg c, decide_eq_false c]
      have ih := checkNames_l1 post (pre ++ [x]) (by simpa using hl)
      rw [← mid_snoc] at ih
      exact Ev.congr (fun k => if_neg (by decide)) ih
theorem checkNames_l0 : ∀ (post pre : List ByteArray) (R : Int), StrsOk post → (pre ++ post).length ≤ 140737488351232 → Ev (fun k => capture_checkNames.l1 k (pre ++ post) (pre ++ post) ((pre ++ post).length : Int) 0) R →
    Ev (fun k => capture_checkNames.l0 k (pre ++ post) (pre ++ post) ((pre ++ post).length : Int) (pre.length : Int)) (if nmA post = true then R else 4)
  | [], pre, R, hs, hl, hR => by
    refine Ev.step (fun k => ?_) (Ev.congr (fun k => rfl) hR)
    simp only [capture_checkNames.l0]
    rw [if_neg (by simp)]
  | x :: post, pre, R, hs, hl, hR => by
    have hlt := mids_lt pre post x
    have hn : pre.length ≤ 9223372036854775806 := by
      simp only [List.length_append, List.length_cons] at hl
      omega
    have hst : ∀ k, capture_checkNames.l0 (k + 1) (pre ++ x :: post) (pre ++ x :: post) ((pre ++ x :: post).length : Int) (pre.length : Int) = (lex_Name.f k x).bind fun t108 => (if t108 = true then (capture_checkNames.l0 k (pre ++ x :: post) (pre ++ x :: post) ((pre ++ x :: post).length : Int) ((pre ++ [x]).length : Int)) else (some 4)) := by
      intro k
      simp only [capture_checkNames.l0]
      rw [rds_mid, if_pos hlt, if_pos (by omega), if_pos hlt, succ_mid _ _ hn]
    refine Ev.step hst (Ev.bind (lex_Name_ev x (hs x (by simp))) ?_)
    unfold nmA
    by_cases c : nmOk x = true
    · rw [if_pos c, c]
      have ih := checkNames_l0 post (pre ++ [x]) R (fun y hy => hs y (by simp [hy])) (by simpa using hl) (by rw [← mid_snoc]; exact hR)
      rw [← mid_snoc] at ih
      exact Ev.congr (fun k => if_pos rfl) ih
    · rw [if_neg c, Bool.eq_false_iff.2 c]
      exact Ev.congr (fun k => if_neg (by decide)) (Ev.now _)
theorem checkNames_ev {l : List ByteArray} (hs : StrsOk l) (hl : l.length ≤ 140737488351232) (h16 : l.length ≤ 16) : Ev (fun k => capture_checkNames.f k l) (nmsV l) := by
  unfold nmsV
  rw [if_neg (by omega)]
  by_cases c : l.length = 0
  · rw [if_pos c]
    refine Ev.congr (fun k => ?_) (Ev.now _)
    unfold capture_checkNames.f
    rw [if_pos (by omega)]
  · rw [if_neg c]
    refine Ev.congr (fun k => ?_) (checkNames_l0 l [] _ hs (by simpa using hl) (checkNames_l1 l [] (by simpa using hl)))
    unfold capture_checkNames.f
    rw [if_neg (by omega)]
    rfl
/-- Levels from 0 to m, and at least one tick each. -/
def RunsM (m : Int) (l : List S48) : Prop := ∀ x ∈ l, 0 ≤ x.f0 ∧ x.f0 ≤ m ∧ 1 ≤ x.f1
def rOk (m : Int) : Int → List S48 → Bool
  | left, [] => true
  | left, x :: l => if 0 ≤ x.f0 ∧ x.f0 ≤ m ∧ 1 ≤ x.f1 ∧ x.f1 ≤ left then rOk m (left - x.f1) l else false
theorem RunsM.cons {m : Int} {x : S48} {l : List S48} (h : RunsM m (x :: l)) : (0 ≤ x.f0 ∧ x.f0 ≤ m ∧ 1 ≤ x.f1) ∧ RunsM m l := ⟨h x (by simp), fun y hy => h y (by simp [hy])⟩
theorem smM_nonneg {m : Int} : ∀ {l : List S48}, RunsM m l → 0 ≤ sm l
  | [], _ => Int.le_refl _
  | x :: l, h => by
    have h1 := h.cons
    have h2 := smM_nonneg h1.2
    simp only [sm]
    omega
theorem rOk_iff {m : Int} : ∀ {l : List S48} {left : Int}, 0 ≤ left → (rOk m left l = true ↔ RunsM m l ∧ sm l ≤ left)
  | [], left, h => by simp [rOk, RunsM, sm, h]
  | x :: l, left, h => by
    unfold rOk
    by_cases c : 0 ≤ x.f0 ∧ x.f0 ≤ m ∧ 1 ≤ x.f1 ∧ x.f1 ≤ left
    · rw [if_pos c, rOk_iff (l := l) (by omega)]
      simp only [RunsM, sm, List.mem_cons, forall_eq_or_imp]
      constructor
      · rintro ⟨h1, h2⟩
        exact ⟨⟨⟨c.1, c.2.1, c.2.2.1⟩, h1⟩, by omega⟩
      · rintro ⟨⟨h1, h2⟩, h3⟩
        exact ⟨h2, by omega⟩
    · rw [if_neg c]
      simp only [Bool.false_eq_true, false_iff]
      rintro ⟨h1, h2⟩
      have h3 := h1.cons
      have h4 := smM_nonneg h3.2
      simp only [sm] at h2
      exact c ⟨h3.1.1, h3.1.2.1, h3.1.2.2, by omega⟩
def mk (l : List ByteArray) : Int := wrap64 ((shl .i64 1 (l.length : Int)) - 1)
def chkV (l : List ByteArray) (r : List S48) : Int := if 262144 < r.length then 6 else if nmsV l = 0 then (if rOk (mk l) 1099511627776 r = true then 0 else 2) else nmsV l
theorem chk_0 {l : List ByteArray} {r : List S48} (h : chkV l r = 0) : r.length ≤ 262144 ∧ nmsV l = 0 ∧ RunsM (mk l) r ∧ sm r ≤ 1099511627776 := by
  unfold chkV at h
  by_cases c : 262144 < r.length
  · rw [if_pos c] at h
    omega
  · rw [if_neg c] at h
    by_cases c1 : nmsV l = 0
    · rw [if_pos c1] at h
      by_cases c2 : rOk (mk l) 1099511627776 r = true
      · exact ⟨by omega, c1, (rOk_iff (by omega)).1 c2⟩
      · rw [if_neg c2] at h
        omega
    · rw [if_neg c1] at h
      exact absurd h c1
theorem Check_l0 (m : Int) : ∀ (post pre : List S48) (left : Int), 0 ≤ left → left ≤ 1099511627776 → (pre ++ post).length ≤ 140737488351232 →
    Ev (fun k => capture_Check.l0 k m left (pre ++ post) ((pre ++ post).length : Int) (pre.length : Int)) (if rOk m left post = true then 0 else 2)
  | [], pre, left, h0, h1, hl => by
    rw [show (if rOk m left [] = true then (0 : Int) else 2) = 0 from rfl]
    refine Ev.step (f := fun _ => some 0) (fun k => ?_) (Ev.now _)
    simp only [capture_Check.l0]
    rw [if_neg (by simp)]
  | x :: post, pre, left, h0, h1, hl => by
    have hlt := mid_lt pre post x
    have hn : pre.length ≤ 9223372036854775806 := by
      simp only [List.length_append, List.length_cons] at hl
      omega
    unfold rOk
    by_cases c : 0 ≤ x.f0 ∧ x.f0 ≤ m ∧ 1 ≤ x.f1 ∧ x.f1 ≤ left
    · have ih := Check_l0 m post (pre ++ [x]) (left - x.f1) (by omega) (by omega) (by simpa using hl)
      rw [← mid_snoc] at ih
      rw [if_pos c]
      refine Ev.step (fun k => ?_) ih
      simp only [capture_Check.l0]
      rw [rd_mid, if_pos hlt, if_pos (by omega), if_pos hlt, if_neg (by omega), if_neg (by omega), if_neg (by omega), if_neg (by omega), w64 (by omega) (by omega), succ_mid _ _ hn]
    · rw [if_neg c, show (if false = true then (0 : Int) else 2) = 2 from rfl]
      refine Ev.step (f := fun _ => some 2) (fun k => ?_) (Ev.now _)
      simp only [capture_Check.l0]
      rw [rd_mid, if_pos hlt, if_pos (by omega), if_pos hlt]
      by_cases c1 : x.f0 < 0
      · rw [if_pos c1]
      · rw [if_neg c1]
        by_cases c2 : x.f0 > m
        · rw [if_pos c2]
        · rw [if_neg c2]
          by_cases c3 : x.f1 < 1
          · rw [if_pos c3]
          · rw [if_neg c3, if_pos (by omega)]
theorem Check_ev {l : List ByteArray} {r : List S48} (hs : StrsOk l) (hl : l.length ≤ 140737488351232) (hr : r.length ≤ 140737488351232) : Ev (fun k => capture_Check.f k l r) (chkV l r) := by
  have hj : Ev (fun k => capture_Check.j0 k true l r) 6 := Ev.step (f := fun _ => some 6) (fun k => by simp only [capture_Check.j0]; rfl) (Ev.now _)
  by_cases c : 16 < l.length
  · have e : chkV l r = 6 := by
      have e1 : nmsV l = 6 := by
        unfold nmsV
        rw [if_pos c]
      unfold chkV
      rw [e1]
      by_cases c1 : 262144 < r.length
      · rw [if_pos c1]
      · rw [if_neg c1]
        rfl
    rw [e]
    refine Ev.congr (fun k => ?_) hj
    unfold capture_Check.f
    rw [if_pos (by omega)]
  · have e : ∀ k, capture_Check.f k l r = capture_Check.j0 k (decide ((r.length : Int) > 262144)) l r := by
      intro k
      unfold capture_Check.f
      rw [if_neg (by omega)]
    refine Ev.congr e ?_
    unfold chkV
    by_cases c1 : 262144 < r.length
    · rw [if_pos c1, decide_eq_true (by omega)]
      exact hj
    · rw [if_neg c1, decide_eq_false (by omega)]
      refine Ev.step (f := fun k => (capture_checkNames.f k l).bind fun t113 => (if t113 = 0 then (capture_Check.l0 k (mk l) 1099511627776 r (r.length : Int) 0) else (some t113))) (fun k => ?_) (Ev.bind (checkNames_ev hs hl (by omega)) ?_)
      · simp only [capture_Check.j0]
        rw [if_neg (by decide)]
        rfl
      · by_cases c2 : nmsV l = 0
        · rw [if_pos c2]
          exact Ev.congr (fun k => if_pos c2) (Check_l0 (mk l) r [] 1099511627776 (by omega) (by omega) (by simpa using hr))
        · rw [if_neg c2]
          exact Ev.congr (fun k => if_neg c2) (Ev.now _)
theorem long_l0 {m : Int} : ∀ (post pre : List S48) (s : Int), 0 ≤ s → s + sm post ≤ 4611686018427387904 → RunsM m post → (pre ++ post).length ≤ 140737488351232 →
    Ev (fun k => capture_long.l0 k s (pre ++ post) ((pre ++ post).length : Int) (pre.length : Int)) (s + sm post)
  | [], pre, s, h0, h1, hw, hl => by
    refine Ev.step (f := fun _ => some s) (fun k => ?_) ?_
    · simp only [capture_long.l0]
      rw [if_neg (by simp)]
    · simp only [sm, Int.add_zero]
      exact Ev.now _
  | x :: post, pre, s, h0, h1, hw, hl => by
    have hx := hw.cons
    have hs := smM_nonneg hx.2
    simp only [sm] at h1
    have hlt := mid_lt pre post x
    have hn : pre.length ≤ 9223372036854775806 := by
      simp only [List.length_append, List.length_cons] at hl
      omega
    have ih := long_l0 post (pre ++ [x]) (s + x.f1) (by omega) (by omega) hx.2 (by simpa using hl)
    rw [← mid_snoc] at ih
    have e1 : s + sm (x :: post) = s + x.f1 + sm post := by
      simp only [sm]
      omega
    rw [e1]
    refine Ev.step (fun k => ?_) ih
    simp only [capture_long.l0]
    rw [rd_mid, if_pos hlt, if_pos (by omega), if_pos hlt, w64 (x := s + x.f1) (by omega) (by omega), succ_mid _ _ hn]
theorem long_ev {m : Int} {r : List S48} (h : RunsM m r) (hs : sm r ≤ 1099511627776) (hr : r.length ≤ 140737488351232) : Ev (fun k => capture_long.f k r) (sm r) := by
  have h := long_l0 r [] 0 (by omega) (by omega) h (by simpa using hr)
  rw [Int.zero_add] at h
  exact Ev.congr (fun k => rfl) h
def longC (l : List ByteArray) (r : List S48) : Int := if chkV l r = 0 then sm r else 0
theorem Long_ev {l : List ByteArray} {r : List S48} (hs : StrsOk l) (hl : l.length ≤ 140737488351232) (hr : r.length ≤ 140737488351232) : Ev (fun k => capture_Long.f k l r) (longC l r) := by
  unfold longC
  refine Ev.bind (Check_ev hs hl hr) ?_
  by_cases c : chkV l r = 0
  · have h := chk_0 c
    rw [if_pos c]
    exact Ev.congr (fun k => if_pos c) (Ev.bind (long_ev h.2.2.1 h.2.2.2 hr) (Ev.now _))
  · rw [if_neg c]
    exact Ev.congr (fun k => if_neg c) (Ev.now _)
def atC (l : List ByteArray) (r : List S48) (t : Int) : Int × Bool := if t < 0 then (-1, false) else if chkV l r = 0 then atS r t else (-1, false)
theorem At_l0 {m : Int} : ∀ (post pre : List S48) (t : Int), 0 ≤ t → t ≤ 9223372036854775807 → RunsM m post → (pre ++ post).length ≤ 140737488351232 →
    Ev (fun k => capture_At.l0 k t (pre ++ post) ((pre ++ post).length : Int) (pre.length : Int)) (atS post t)
  | [], pre, t, h0, h1, hw, hl => by
    refine Ev.step (f := fun _ => some ((-1), false)) (fun k => ?_) (Ev.now _)
    simp only [capture_At.l0]
    rw [if_neg (by simp)]
  | x :: post, pre, t, h0, h1, hw, hl => by
    have hx := hw.cons
    have hlt := mid_lt pre post x
    have hn : pre.length ≤ 9223372036854775806 := by
      simp only [List.length_append, List.length_cons] at hl
      omega
    by_cases c : t < x.f1
    · rw [atS, if_pos c]
      refine Ev.step (f := fun _ => some (x.f0, true)) (fun k => ?_) (Ev.now _)
      simp only [capture_At.l0]
      rw [rd_mid, if_pos hlt, if_pos (by omega), if_pos hlt, if_pos c]
    · have ih := At_l0 post (pre ++ [x]) (t - x.f1) (by omega) (by omega) hx.2 (by simpa using hl)
      rw [← mid_snoc] at ih
      rw [atS, if_neg c]
      refine Ev.step (fun k => ?_) ih
      simp only [capture_At.l0]
      rw [rd_mid, if_pos hlt, if_pos (by omega), if_pos hlt, if_neg c, w64 (by omega) (by omega), succ_mid _ _ hn]
theorem At_ev {l : List ByteArray} {r : List S48} {t : Int} (hs : StrsOk l) (hl : l.length ≤ 140737488351232) (hr : r.length ≤ 140737488351232) (ht : t ≤ 9223372036854775807) : Ev (fun k => capture_At.f k l r t) (atC l r t) := by
  have hj : Ev (fun k => capture_At.j0 k t true l r) (-1, false) := Ev.step (f := fun _ => some (-1, false)) (fun k => by simp only [capture_At.j0]; rfl) (Ev.now _)
  unfold atC
  by_cases c : t < 0
  · rw [if_pos c]
    refine Ev.congr (fun k => ?_) hj
    unfold capture_At.f
    rw [if_pos c]
  · rw [if_neg c]
    refine Ev.congr (f := fun k => (capture_Check.f k l r).bind fun t117 => (capture_At.j0 k t (t117 != 0) l r)) (fun k => ?_) (Ev.bind (Check_ev hs hl hr) ?_)
    · unfold capture_At.f
      rw [if_neg c]
    · by_cases v : chkV l r = 0
      · rw [if_pos v, v]
        refine Ev.step (fun k => ?_) (At_l0 r [] t (by omega) (by omega) (chk_0 v).2.2.1 (by simpa using hr))
        simp only [capture_At.j0]
        rw [if_neg (by decide)]
        rfl
      · rw [if_neg v, show (chkV l r != 0) = true from bne_iff_ne.2 v]
        exact hj
/-- A run put behind runs. -/
def putR (o : List S48) (v t : Int) : List S48 :=
  match o.getLast? with
  | some y => if y.f0 = v then o.dropLast ++ [(⟨y.f0, y.f1 + t⟩ : S48)] else o ++ [(⟨v, t⟩ : S48)]
  | none => [(⟨v, t⟩ : S48)]
theorem putR_nil (v t : Int) : putR [] v t = [⟨v, t⟩] := rfl
theorem putR_same (o : List S48) (y : S48) (t : Int) : putR (o ++ [y]) y.f0 t = o ++ [⟨y.f0, y.f1 + t⟩] := by
  simp [putR]
theorem putR_new (o : List S48) (y : S48) {v t : Int} (h : ¬ y.f0 = v) : putR (o ++ [y]) v t = o ++ [y] ++ [⟨v, t⟩] := by
  simp [putR, h]
theorem snoc_cases {α : Type} (o : List α) : o = [] ∨ ∃ q y, o = q ++ [y] := by
  rcases List.eq_nil_or_concat o with h | ⟨q, y, h⟩
  · exact .inl h
  · exact .inr ⟨q, y, by simpa using h⟩
theorem join_eq {o : List S48} {v t : Int} (ho : o.length < 8796093022208) (h0 : 0 ≤ t) (hs : ∀ y ∈ o, 0 ≤ y.f1 ∧ y.f1 + t ≤ 9223372036854775807) : capture_join.f o v t = some (putR o v t) := by
  rcases snoc_cases o with rfl | ⟨q, y, rfl⟩
  · unfold capture_join.f
    rw [if_neg (by simp), if_pos (by simp)]
    rfl
  · have hy := hs y (by simp)
    have hq : q.length ≤ 9223372036854775806 := by
      simp only [List.length_append, List.length_cons, List.length_nil] at ho
      omega
    have hlt : (q.length : Int) < ((q ++ [y]).length : Int) := mid_lt q [] y
    unfold capture_join.f
    rw [last_at q y hq, rd_last, if_pos (by omega), if_pos (by omega), if_pos hlt]
    by_cases c : y.f0 = v
    · rw [if_pos c, set_last, w64 (by omega) (by omega), ← c, putR_same]
    · rw [if_neg c, if_pos ho, putR_new q y c]
theorem putR_sm (o : List S48) (v t : Int) : sm (putR o v t) = sm o + t := by
  rcases snoc_cases o with rfl | ⟨q, y, rfl⟩
  · simp [putR_nil, sm]
  · by_cases c : y.f0 = v
    · rw [← c, putR_same]
      simp only [sm_append, sm]
      omega
    · rw [putR_new q y c]
      simp only [sm_append, sm]
      omega
theorem putR_len (o : List S48) (v t : Int) : (putR o v t).length ≤ o.length + 1 := by
  rcases snoc_cases o with rfl | ⟨q, y, rfl⟩
  · simp [putR_nil]
  · by_cases c : y.f0 = v
    · rw [← c, putR_same]
      simp
    · rw [putR_new q y c]
      simp
theorem putR_ok {m : Int} {o : List S48} {v t : Int} (h : RunsM m o) (hv : 0 ≤ v ∧ v ≤ m) (ht : 1 ≤ t) : RunsM m (putR o v t) := by
  rcases snoc_cases o with rfl | ⟨q, y, rfl⟩
  · intro x hx
    rw [putR_nil, List.mem_singleton] at hx
    subst hx
    exact ⟨hv.1, hv.2, ht⟩
  · have hy := h y (by simp)
    by_cases c : y.f0 = v
    · rw [← c, putR_same]
      intro x hx
      rcases List.mem_append.1 hx with hx | hx
      · exact h x (by simp [hx])
      · rw [List.mem_singleton] at hx
        subst hx
        exact ⟨hy.1, hy.2.1, by show 1 ≤ y.f1 + t; omega⟩
    · rw [putR_new q y c]
      intro x hx
      rcases List.mem_append.1 hx with hx | hx
      · exact h x hx
      · rw [List.mem_singleton] at hx
        subst hx
        exact ⟨hv.1, hv.2, ht⟩
/-- Each run has at most the sum of all. -/
theorem le_sm {m : Int} : ∀ {l : List S48}, RunsM m l → ∀ y ∈ l, 0 ≤ y.f1 ∧ y.f1 ≤ sm l
  | [], h, y, hy => by simp at hy
  | x :: l, h, y, hy => by
    have hx := h.cons
    have h0 := smM_nonneg hx.2
    simp only [sm]
    rcases List.mem_cons.1 hy with rfl | hy
    · omega
    · have := le_sm hx.2 y hy
      omega
def cln : List S48 → List S48 → List S48
  | o, [] => o
  | o, x :: l => cln (putR o x.f0 x.f1) l
theorem cln_len : ∀ (l o : List S48), (cln o l).length ≤ o.length + l.length
  | [], o => by simp [cln]
  | x :: l, o => by
    have := cln_len l (putR o x.f0 x.f1)
    have := putR_len o x.f0 x.f1
    simp only [cln, List.length_cons]
    omega
theorem clean_l0 {m : Int} : ∀ (post pre o : List S48), RunsM m o → RunsM m post → sm o + sm post ≤ 1099511627776 → (pre ++ post).length ≤ 262144 → o.length + post.length ≤ 262144 →
    Ev (fun k => capture_clean.l0 k o (pre ++ post) ((pre ++ post).length : Int) (pre.length : Int)) (cln o post)
  | [], pre, o, h0, h1, hs, hl, ho => by
    refine Ev.step (f := fun _ => some o) (fun k => ?_) (Ev.now _)
    simp only [capture_clean.l0]
    rw [if_neg (by simp)]
  | x :: post, pre, o, h0, h1, hs, hl, ho => by
    have hx := h1.cons
    have h2 := smM_nonneg hx.2
    have h3 := smM_nonneg h0
    simp only [sm] at hs
    simp only [List.length_cons] at ho
    have hlt := mid_lt pre post x
    have hn : pre.length ≤ 9223372036854775806 := by
      simp only [List.length_append, List.length_cons] at hl
      omega
    have hj : capture_join.f o x.f0 x.f1 = some (putR o x.f0 x.f1) := join_eq (by omega) (by omega) (fun y hy => by have := le_sm h0 y hy; omega)
    have ih := clean_l0 post (pre ++ [x]) (putR o x.f0 x.f1) (putR_ok h0 ⟨hx.1.1, hx.1.2.1⟩ hx.1.2.2) hx.2 (by rw [putR_sm]; omega) (by simpa using hl) (by have := putR_len o x.f0 x.f1; omega)
    rw [← mid_snoc] at ih
    refine Ev.step (fun k => ?_) ih
    simp only [capture_clean.l0]
    rw [rd_mid, if_pos hlt, if_pos (by omega), if_pos hlt, hj, Option.bind_some, succ_mid _ _ hn]
theorem clean_ev {m : Int} {r : List S48} (h : RunsM m r) (hs : sm r ≤ 1099511627776) (hr : r.length ≤ 262144) : Ev (fun k => capture_clean.f k r) (cln [] r) :=
  Ev.congr (fun k => rfl) (clean_l0 r [] [] (fun x hx => by simp at hx) h (by simp only [sm]; omega) (by simpa using hr) (by simpa using hr))
def eqR : List S48 → List S48 → Bool
  | [], _ => true
  | _ :: _, [] => false
  | x :: a, y :: b => if x.f0 = y.f0 ∧ x.f1 = y.f1 then eqR a b else false
theorem rne_iff (x y : S48) : (!((x.f0) == (y.f0)) || (!((x.f1) == (y.f1)))) = true ↔ ¬ (x.f0 = y.f0 ∧ x.f1 = y.f1) := by
  by_cases h : x.f0 = y.f0 <;> by_cases h' : x.f1 = y.f1 <;> simp [h, h']
theorem eqR_refl : ∀ (a : List S48), eqR a a = true
  | [] => rfl
  | x :: a => by
    unfold eqR
    rw [if_pos ⟨rfl, rfl⟩]
    exact eqR_refl a
theorem EqualRun_l0 : ∀ (p q a b : List S48), p.length = q.length → a.length = b.length → (p ++ a).length ≤ 140737488351232 →
    Ev (fun k => slices_Equal_Run.l0 k (p ++ a) (q ++ b) ((p ++ a).length : Int) (p.length : Int)) (eqR a b)
  | p, q, [], b, hp, hab, hl => by
    refine Ev.step (f := fun _ => some true) (fun k => ?_) (Ev.now _)
    simp only [slices_Equal_Run.l0]
    rw [if_neg (by simp)]
  | p, q, x :: a, [], hp, hab, hl => by simp at hab
  | p, q, x :: a, y :: b, hp, hab, hl => by
    have hlt := mid_lt p a x
    have hlt2 := mid_lt q b y
    have hn : p.length ≤ 9223372036854775806 := by
      simp only [List.length_append, List.length_cons] at hl
      omega
    have e2 : rd_T48 (q ++ y :: b) (p.length : Int) = y := by
      rw [hp]
      exact rd_mid q b y
    have hst : ∀ k, slices_Equal_Run.l0 (k + 1) (p ++ x :: a) (q ++ y :: b) ((p ++ x :: a).length : Int) (p.length : Int) = if (!((x.f0) == (y.f0)) || (!((x.f1) == (y.f1)))) = true then some false else slices_Equal_Run.l0 k (p ++ x :: a) (q ++ y :: b) ((p ++ x :: a).length : Int) ((p ++ [x]).length : Int) := by
      intro k
      simp only [slices_Equal_Run.l0]
      rw [rd_mid, e2, if_pos hlt, if_pos (by omega), if_pos hlt, if_pos (by rw [hp]; exact hlt2), succ_mid _ _ hn]
    unfold eqR
    by_cases c : x.f0 = y.f0 ∧ x.f1 = y.f1
    · rw [if_pos c]
      have ih := EqualRun_l0 (p ++ [x]) (q ++ [y]) a b (by simp [hp]) (by simpa using hab) (by simpa using hl)
      rw [← mid_snoc, ← mid_snoc] at ih
      exact Ev.step (fun k => (hst k).trans (if_neg (fun h => (rne_iff x y).1 h c))) ih
    · rw [if_neg c]
      exact Ev.step (fun k => (hst k).trans (if_pos ((rne_iff x y).2 c))) (Ev.now _)
def eqRV (a b : List S48) : Bool := if a.length = b.length then eqR a b else false
theorem EqualRun_ev {a b : List S48} (hl : a.length ≤ 140737488351232) : Ev (fun k => slices_Equal_Run.f k a b) (eqRV a b) := by
  unfold eqRV
  by_cases c : a.length = b.length
  · rw [if_pos c]
    refine Ev.congr (fun k => ?_) (EqualRun_l0 [] [] a b rfl c (by simpa using hl))
    unfold slices_Equal_Run.f
    rw [if_pos (by omega)]
    rfl
  · rw [if_neg c]
    refine Ev.congr (fun k => ?_) (Ev.now _)
    unfold slices_Equal_Run.f
    rw [if_neg (by omega)]
def eqS : List ByteArray → List ByteArray → Bool
  | [], _ => true
  | _ :: _, [] => false
  | x :: a, y :: b => if x.toList = y.toList then eqS a b else false
theorem eqS_refl : ∀ (a : List ByteArray), eqS a a = true
  | [] => rfl
  | x :: a => by
    unfold eqS
    rw [if_pos rfl]
    exact eqS_refl a
theorem EqualStr_l0 : ∀ (p q a b : List ByteArray), p.length = q.length → a.length = b.length → (p ++ a).length ≤ 140737488351232 →
    Ev (fun k => slices_Equal_string.l0 k (p ++ a) (q ++ b) ((p ++ a).length : Int) (p.length : Int)) (eqS a b)
  | p, q, [], b, hp, hab, hl => by
    refine Ev.step (f := fun _ => some true) (fun k => ?_) (Ev.now _)
    simp only [slices_Equal_string.l0]
    rw [if_neg (by simp)]
  | p, q, x :: a, [], hp, hab, hl => by simp at hab
  | p, q, x :: a, y :: b, hp, hab, hl => by
    have hlt := mids_lt p a x
    have hlt2 := mids_lt q b y
    have hn : p.length ≤ 9223372036854775806 := by
      simp only [List.length_append, List.length_cons] at hl
      omega
    have e2 : rdOf ByteArray.empty (q ++ y :: b) (p.length : Int) = y := by
      rw [hp]
      exact rds_mid q b y
    have hst : ∀ k, slices_Equal_string.l0 (k + 1) (p ++ x :: a) (q ++ y :: b) ((p ++ x :: a).length : Int) (p.length : Int) = if x.toList = y.toList then slices_Equal_string.l0 k (p ++ x :: a) (q ++ y :: b) ((p ++ x :: a).length : Int) ((p ++ [x]).length : Int) else some false := by
      intro k
      simp only [slices_Equal_string.l0]
      rw [rds_mid, e2, if_pos hlt, if_pos (by omega), if_pos hlt, if_pos (by rw [hp]; exact hlt2), succ_mid _ _ hn]
    unfold eqS
    by_cases c : x.toList = y.toList
    · rw [if_pos c]
      have ih := EqualStr_l0 (p ++ [x]) (q ++ [y]) a b (by simp [hp]) (by simpa using hab) (by simpa using hl)
      rw [← mid_snoc, ← mid_snoc] at ih
      exact Ev.step (fun k => (hst k).trans (if_pos c)) ih
    · rw [if_neg c]
      exact Ev.step (fun k => (hst k).trans (if_neg c)) (Ev.now _)
def eqSV (a b : List ByteArray) : Bool := if a.length = b.length then eqS a b else false
theorem EqualStr_ev {a b : List ByteArray} (hl : a.length ≤ 140737488351232) : Ev (fun k => slices_Equal_string.f k a b) (eqSV a b) := by
  unfold eqSV
  by_cases c : a.length = b.length
  · rw [if_pos c]
    refine Ev.congr (fun k => ?_) (EqualStr_l0 [] [] a b rfl c (by simpa using hl))
    unfold slices_Equal_string.f
    rw [if_pos (by omega)]
    rfl
  · rw [if_neg c]
    refine Ev.congr (fun k => ?_) (Ev.now _)
    unfold slices_Equal_string.f
    rw [if_neg (by omega)]
/-- Same, of the program and of the reference. -/
def samV (a : List ByteArray) (r : List S48) (b : List ByteArray) (s : List S48) : Bool :=
  if chkV a r = 0 ∧ chkV b s = 0 ∧ eqSV a b = true then eqRV (cln [] r) (cln [] s) else false
theorem Same_ev {a b : List ByteArray} {r s : List S48} (ha : StrsOk a) (hb : StrsOk b) (hla : a.length ≤ 140737488351232) (hlb : b.length ≤ 140737488351232) (hr : r.length ≤ 140737488351232) (hs : s.length ≤ 140737488351232) :
    Ev (fun k => capture_Same.f k a r b s) (samV a r b s) := by
  have hj : Ev (fun k => capture_Same.j0 k true a r b s) false := Ev.step (f := fun _ => some false) (fun k => by simp only [capture_Same.j0]; rfl) (Ev.now _)
  unfold samV
  refine Ev.bind (Check_ev ha hla hr) ?_
  by_cases c : chkV a r = 0
  · refine Ev.congr (fun k => if_pos c) (Ev.bind (Check_ev hb hlb hs) ?_)
    by_cases c1 : chkV b s = 0
    · refine Ev.congr (fun k => if_pos c1) (Ev.bind (EqualStr_ev hla) ?_)
      by_cases c2 : eqSV a b = true
      · have h := chk_0 c
        have h' := chk_0 c1
        rw [if_pos ⟨c, c1, c2⟩, c2]
        refine Ev.step (f := fun k => (capture_clean.f k r).bind fun t406 => ((capture_clean.f k s).bind fun t409 => ((slices_Equal_Run.f k t406 t409).bind fun t412 => (some t412)))) (fun k => ?_) (Ev.bind (clean_ev h.2.2.1 h.2.2.2 h.1) (Ev.bind (clean_ev h'.2.2.1 h'.2.2.2 h'.1) (Ev.bind (EqualRun_ev ?_) (Ev.now _))))
        · simp only [capture_Same.j0]
          rw [if_neg (by decide)]
        · have := cln_len r []
          simp only [List.length_nil] at this
          omega
      · rw [if_neg (fun h => c2 h.2.2), Bool.eq_false_iff.2 c2]
        exact hj
    · rw [if_neg (fun h => c1 h.2.1)]
      exact Ev.congr (fun k => if_neg c1) hj
  · rw [if_neg (fun h => c h.1)]
    exact Ev.congr (fun k => if_neg c) hj
theorem sm_nil : sm ([] : List S48) = 0 := rfl
theorem sm_cons (x : S48) (l : List S48) : sm (x :: l) = x.f1 + sm l := rfl
theorem atS_cons (x : S48) (l : List S48) (t : Int) : atS (x :: l) t = if t < x.f1 then (x.f0, true) else atS l (t - x.f1) := rfl
theorem atS_append {m : Int} : ∀ {a : List S48} (b : List S48) (t : Int), RunsM m a → 0 ≤ t → atS (a ++ b) t = if t < sm a then atS a t else atS b (t - sm a)
  | [], b, t, h, ht => by
    rw [sm_nil, List.nil_append, Int.sub_zero, if_neg (by omega)]
  | x :: a, b, t, h, ht => by
    have hx := h.cons
    have h2 := smM_nonneg hx.2
    rw [List.cons_append, atS_cons, atS_cons, sm_cons]
    by_cases c : t < x.f1
    · rw [if_pos c, if_pos (by omega), if_pos c]
    · rw [if_neg c, if_neg c, atS_append b (t - x.f1) hx.2 (by omega)]
      by_cases c1 : t - x.f1 < sm a
      · rw [if_pos c1, if_pos (by omega)]
      · rw [if_neg c1, if_neg (by omega), show t - x.f1 - sm a = t - (x.f1 + sm a) by omega]
theorem atS_putR {m : Int} {o : List S48} {v n t : Int} (h : RunsM m o) (ht : 0 ≤ t) (hn : 0 ≤ n) : atS (putR o v n) t = if t < sm o then atS o t else if t - sm o < n then (v, true) else (-1, false) := by
  have e : ∀ s, atS [(⟨v, n⟩ : S48)] s = if s < n then (v, true) else (-1, false) := fun s => rfl
  rcases snoc_cases o with rfl | ⟨q, y, rfl⟩
  · rw [putR_nil, e, sm_nil, Int.sub_zero, if_neg (show ¬ t < 0 by omega)]
  · have hq : RunsM m q := fun x hx => h x (by simp [hx])
    have hy := h y (by simp)
    have hs := smM_nonneg hq
    by_cases c : y.f0 = v
    · rw [← c, putR_same, atS_append _ _ hq ht, atS_append _ _ hq ht]
      simp only [sm_append, sm, Int.add_zero]
      by_cases c1 : t < sm q
      · rw [if_pos c1, if_pos (by omega), if_pos c1]
      · rw [if_neg c1]
        by_cases c2 : t < sm q + y.f1
        · rw [if_pos c2, if_neg c1]
          simp only [atS]
          rw [if_pos (by omega), if_pos (by omega)]
        · rw [if_neg c2]
          simp only [atS]
          by_cases c3 : t - sm q < y.f1 + n
          · rw [if_pos c3, if_pos (by omega)]
          · rw [if_neg c3, if_neg (by omega)]
    · rw [putR_new q y c, atS_append _ _ h ht]
      by_cases c1 : t < sm (q ++ [y])
      · rw [if_pos c1, if_pos c1]
      · rw [if_neg c1, if_neg c1, e]
theorem chkV_of {l : List ByteArray} {r : List S48} (h : r.length ≤ 262144) (h1 : nmsV l = 0) (h2 : RunsM (mk l) r) (h3 : sm r ≤ 1099511627776) : chkV l r = 0 := by
  unfold chkV
  rw [if_neg (by omega), if_pos h1, if_pos ((rOk_iff (by omega)).2 ⟨h2, h3⟩)]
def Tk (l : List S48) : Prop := ∀ y ∈ l, 1 ≤ y.f1
theorem RunsM.tk {m : Int} {l : List S48} (h : RunsM m l) : Tk l := fun y hy => (h y hy).2.2
theorem Tk.cons {x : S48} {l : List S48} (h : Tk (x :: l)) : 1 ≤ x.f1 ∧ Tk l := ⟨h x (by simp), fun y hy => h y (by simp [hy])⟩
theorem smT_nonneg : ∀ {l : List S48}, Tk l → 0 ≤ sm l
  | [], _ => Int.le_refl _
  | x :: l, h => by
    have h1 := h.cons
    have h2 := smT_nonneg h1.2
    simp only [sm]
    omega
theorem leT_sm : ∀ {l : List S48}, Tk l → ∀ y ∈ l, 0 ≤ y.f1 ∧ y.f1 ≤ sm l
  | [], h, y, hy => by simp at hy
  | x :: l, h, y, hy => by
    have hx := h.cons
    have h0 := smT_nonneg hx.2
    simp only [sm]
    rcases List.mem_cons.1 hy with rfl | hy
    · omega
    · have := leT_sm hx.2 y hy
      omega
theorem putR_tk {o : List S48} {v t : Int} (h : Tk o) (ht : 1 ≤ t) : Tk (putR o v t) := by
  rcases snoc_cases o with rfl | ⟨q, y, rfl⟩
  · intro x hx
    rw [putR_nil, List.mem_singleton] at hx
    subst hx
    exact ht
  · have hy := h y (by simp)
    by_cases c : y.f0 = v
    · rw [← c, putR_same]
      intro x hx
      rcases List.mem_append.1 hx with hx | hx
      · exact h x (by simp [hx])
      · rw [List.mem_singleton] at hx
        subst hx
        show 1 ≤ y.f1 + t
        omega
    · rw [putR_new q y c]
      intro x hx
      rcases List.mem_append.1 hx with hx | hx
      · exact h x hx
      · rw [List.mem_singleton] at hx
        subst hx
        exact ht
theorem lives12_ev : Ev (fun k => signalbenchlaw12_lives.f k) true := Ev.of (k := 60) (fun k => signalbenchlaw12_lives.mono k) (by decide +kernel)
def fewV12 (l : List ByteArray) (r : List S48) : Bool := decide (l.length ≤ 60 ∧ r.length ≤ 500)
theorem few12_eq (l : List ByteArray) (r : List S48) : signalbenchlaw12_few.f l r = some (fewV12 l r) := by
  unfold signalbenchlaw12_few.f fewV12
  by_cases c : l.length ≤ 60
  · rw [if_pos (by omega)]
    by_cases c1 : r.length ≤ 500
    · rw [decide_eq_true (by omega), decide_eq_true ⟨c, c1⟩]
    · rw [decide_eq_false (by omega), decide_eq_false (fun h => c1 h.2)]
  · rw [if_neg (by omega), decide_eq_false (fun h => c h.1)]
theorem rjoin (o : List S48) (v t : Int) : remap_join.f o v t = capture_join.f o v t := rfl
theorem clone_str {l : List ByteArray} (h : l.length ≤ 140737488351) : slices_Clone_string.f l = some l := by
  unfold slices_Clone_string.f
  rw [if_pos (by omega)]
theorem cln_jnc : ∀ (l q : List S48) (y : S48), cln (q ++ [y]) l = q ++ jnc y l
  | [], q, y => rfl
  | x :: l, q, y => by
    unfold cln jnc
    by_cases c : y.f0 = x.f0
    · rw [← c, putR_same, cln_jnc l q, if_pos rfl]
    · rw [putR_new q y c, cln_jnc l (q ++ [y]), if_neg c, List.append_assoc]
      rfl
theorem cln_jn (l : List S48) : cln [] l = jn l := by
  cases l with
  | nil => rfl
  | cons x l =>
    show cln (putR [] x.f0 x.f1) l = _
    rw [putR_nil]
    exact cln_jnc l [] _
theorem cln_sm : ∀ (l o : List S48), sm (cln o l) = sm o + sm l
  | [], o => by simp [cln, sm]
  | x :: l, o => by
    show sm (cln (putR o x.f0 x.f1) l) = _
    rw [cln_sm l, putR_sm, sm]
    omega
theorem cln_ok {m : Int} : ∀ (l : List S48) {o : List S48}, RunsM m o → RunsM m l → RunsM m (cln o l)
  | [], o, h, _ => h
  | x :: l, o, h, h1 => cln_ok l (putR_ok h ⟨h1.cons.1.1, h1.cons.1.2.1⟩ h1.cons.1.2.2) h1.cons.2
theorem nilM {m : Int} : RunsM m ([] : List S48) := fun x hx => by simp at hx
def vldR (n d : Int) : Bool := decide (1 ≤ d ∧ d ≤ 1073741824 ∧ -1073741824 ≤ n ∧ n ≤ 1073741824 ∧ Nat.gcd n.natAbs d.natAbs = 1)
theorem ratioValid_ev {n d : Int} (hn : (Lit.int .i64 n).wf = true) (hd : (Lit.int .i64 d).wf = true) : Ev (fun k => ratio_Valid.f k n d) (vldR n d) := by
  have hbad : Ev (fun k => ratio_Valid.j0 k true n d) false := Ev.step (f := fun _ => some false) (fun k => by simp only [ratio_Valid.j0]; rfl) (Ev.now _)
  have hno : ¬ (1 ≤ d ∧ d ≤ 1073741824 ∧ -1073741824 ≤ n ∧ n ≤ 1073741824 ∧ Nat.gcd n.natAbs d.natAbs = 1) → vldR n d = false := fun h => decide_eq_false h
  by_cases c1 : d < 1
  · rw [hno (fun h => by omega)]
    exact Ev.congr (fun k => if_pos c1) hbad
  · refine Ev.congr (fun k => if_neg c1) ?_
    by_cases c2 : d > 1073741824
    · rw [hno (fun h => by omega)]
      exact Ev.congr (fun k => if_pos c2) hbad
    · refine Ev.congr (fun k => if_neg c2) ?_
      by_cases c3 : n < -1073741824
      · rw [hno (fun h => by omega)]
        exact Ev.congr (fun k => if_pos c3) hbad
      · refine Ev.congr (fun k => if_neg c3) ?_
        by_cases c4 : n > 1073741824
        · rw [decide_eq_true c4, hno (fun h => by omega)]
          exact hbad
        · rw [decide_eq_false c4]
          have e1 : ratio_size.f n = some ((n.natAbs : Nat) : Int) := size_abs hn
          have e2 : ratio_size.f d = some ((d.natAbs : Nat) : Int) := size_abs hd
          refine Ev.step (f := fun k => (ratio_common.f k ((n.natAbs : Nat) : Int) ((d.natAbs : Nat) : Int)).bind fun t => some (t == 1)) (fun k => ?_) (Ev.bind (ratio_common_ev d.natAbs n.natAbs) ?_)
          · simp only [ratio_Valid.j0]
            rw [if_neg (by decide), e1, Option.bind_some, e2, Option.bind_some]
          · by_cases g : Nat.gcd n.natAbs d.natAbs = 1
            · have hy : vldR n d = true := decide_eq_true ⟨by omega, by omega, by omega, by omega, g⟩
              rw [hy, g]
              exact Ev.now _
            · rw [hno (fun h => g h.2.2.2.2), show ((((Nat.gcd n.natAbs d.natAbs : Nat) : Int)) == 1) = false from beq_eq_false_iff_ne.2 (fun h => g (by omega))]
              exact Ev.now _
theorem vldR_iff {n d : Int} (h : vldR n d = true) : 1 ≤ d ∧ d ≤ 1073741824 ∧ -1073741824 ≤ n ∧ n ≤ 1073741824 := by
  have := of_decide_eq_true h
  exact ⟨this.1, this.2.1, this.2.2.1, this.2.2.2.1⟩
theorem mul_bound {n x : Int} (hn : 0 ≤ n ∧ n ≤ 1073741824) (hx : 0 ≤ x ∧ x ≤ 4294967296) : 0 ≤ n * x ∧ n * x ≤ 4611686018427387904 := by
  refine ⟨Int.mul_nonneg hn.1 hx.1, ?_⟩
  have h1 : n * x ≤ 1073741824 * x := Int.mul_le_mul_of_nonneg_right hn.2 hx.1
  omega
theorem floor_eq {a d : Int} (ha : 0 ≤ a ∧ a ≤ 4611686018427387904) (hd : 1 ≤ d) : ratio_floor.f a d = some (a / d) := by
  have h1 : Int.tdiv a d = a / d := Int.tdiv_eq_ediv_of_nonneg ha.1
  have h2 : 0 ≤ Int.tmod a d := Int.tmod_nonneg d ha.1
  have h3 : 0 ≤ a / d := Int.ediv_nonneg ha.1 (by omega)
  have h4 : a / d ≤ a := Int.ediv_le_self d ha.1
  unfold ratio_floor.f
  rw [if_neg (by omega), if_neg (by omega), h1, w64 (by omega) (by omega)]
/-- A ratio of at least nothing times a tick. -/
theorem ratioScale_ev {n d x : Int} (hn : (Lit.int .i64 n).wf = true) (hd : (Lit.int .i64 d).wf = true) (v : vldR n d = true) (h1 : 1 ≤ n) (hx : 0 ≤ x) : Ev (fun k => ratio_Scale.f k n d x) (if x ≤ 4294967296 then ((n * x) / d, 0) else (0, 3)) := by
  have hv := vldR_iff v
  refine Ev.bind (ratioValid_ev hn hd) (Ev.congr (fun k => if_pos v) (Ev.congr (fun k => if_neg (by omega)) ?_))
  by_cases c : x ≤ 4294967296
  · rw [if_pos c]
    have hb := mul_bound (n := n) (x := x) ⟨by omega, hv.2.2.2⟩ ⟨hx, c⟩
    refine Ev.congr (fun k => (if_neg (by omega)).trans ?_) (Ev.now _)
    rw [w64 (x := n * x) (by omega) (by omega), floor_eq hb hv.1]
    rfl
  · rw [if_neg c]
    exact Ev.congr (fun k => if_pos (by omega)) (Ev.now _)
def sclR (n d : Int) : Int → List S48 → List S48
  | _, [] => []
  | a, x :: l => (⟨x.f0, n * (a + x.f1) / d - n * a / d⟩ : S48) :: sclR n d (a + x.f1) l
def clnZ : List S48 → List S48 → List S48
  | o, [] => o
  | o, x :: l => if 0 < x.f1 then clnZ (putR o x.f0 x.f1) l else clnZ o l
def sclV (l : List ByteArray) (r : List S48) (n d : Int) : List ByteArray × List S48 × Int :=
  if chkV l r = 0 then (if vldR n d = true ∧ 1 ≤ n then (if sm r ≤ 4294967296 ∧ n * sm r / d ≤ 1099511627776 then (l, clnZ [] (sclR n d 0 r), 0) else ([], [], 3)) else ([], [], 1)) else ([], [], chkV l r)
theorem scl_mono {n d a b : Int} (hn : 0 ≤ n) (hd : 1 ≤ d) (h : a ≤ b) : n * a / d ≤ n * b / d := Int.ediv_le_ediv (by omega) (Int.mul_le_mul_of_nonneg_left h hn)
theorem Scale_l0 {n d : Int} (hn : (Lit.int .i64 n).wf = true) (hd : (Lit.int .i64 d).wf = true) (v : vldR n d = true) (h1 : 1 ≤ n) (l : List ByteArray) : ∀ (post pre o : List S48) (a : Int), Tk o → Tk post → 0 ≤ a → a + sm post ≤ 4294967296 → sm o = n * a / d → n * (a + sm post) / d ≤ 1099511627776 → (pre ++ post).length ≤ 262144 → o.length + post.length ≤ 262144 →
    Ev (fun k => remap_Scale.l0 k a (n * a / d) (pre ++ post) ((pre ++ post).length : Int) (pre.length : Int) n d l o) (l, clnZ o (sclR n d a post), 0)
  | [], pre, o, a, h0, ht, ha, hb, hso, hM, hl, ho => by
    refine Ev.step (f := fun _ => some (l, o, 0)) (fun k => ?_) (Ev.now _)
    simp only [remap_Scale.l0]
    rw [if_neg (by simp)]
  | x :: post, pre, o, a, h0, ht, ha, hb, hso, hM, hl, ho => by
    have hv := vldR_iff v
    have hx := ht.cons
    have h2 := smT_nonneg hx.2
    have h3 := smT_nonneg h0
    simp only [sm] at hb hM
    simp only [List.length_cons] at ho
    have hlt := mid_lt pre post x
    have hpn : pre.length ≤ 9223372036854775806 := by
      simp only [List.length_append, List.length_cons] at hl
      omega
    have ex := succ_mid pre x hpn
    have ea : wrap64 (a + x.f1) = a + x.f1 := w64 (by omega) (by omega)
    have hS := ratioScale_ev hn hd v h1 (show 0 ≤ a + x.f1 by omega)
    rw [if_pos (by omega)] at hS
    have m1 : n * a / d ≤ n * (a + x.f1) / d := scl_mono (by omega) hv.1 (by omega)
    have m2 : n * (a + x.f1) / d ≤ n * (a + (x.f1 + sm post)) / d := scl_mono (by omega) hv.1 (by omega)
    have m0 : 0 ≤ n * a / d := by omega
    have ew : wrap64 (n * (a + x.f1) / d - n * a / d) = n * (a + x.f1) / d - n * a / d := w64 (by omega) (by omega)
    have hst : ∀ k, remap_Scale.l0 (k + 1) a (n * a / d) (pre ++ x :: post) ((pre ++ x :: post).length : Int) (pre.length : Int) n d l o = (ratio_Scale.f k n d (a + x.f1)).bind fun bt580 => (if bt580.1 > n * a / d then ((remap_join.f o x.f0 (wrap64 (bt580.1 - n * a / d))).bind fun t582 => (remap_Scale.l0 k (a + x.f1) bt580.1 (pre ++ x :: post) ((pre ++ x :: post).length : Int) ((pre ++ [x]).length : Int) n d l t582)) else (remap_Scale.l0 k (a + x.f1) bt580.1 (pre ++ x :: post) ((pre ++ x :: post).length : Int) ((pre ++ [x]).length : Int) n d l o)) := by
      intro k
      simp only [remap_Scale.l0]
      rw [rd_mid, if_pos hlt, if_pos (Int.natCast_nonneg _), if_pos hlt, ea, ex]
    refine Ev.step hst (Ev.bind hS ?_)
    unfold sclR clnZ
    by_cases c : n * (a + x.f1) / d > n * a / d
    · have hj : capture_join.f o x.f0 (n * (a + x.f1) / d - n * a / d) = some (putR o x.f0 (n * (a + x.f1) / d - n * a / d)) := join_eq (by omega) (by omega) (fun y hy => by have := leT_sm h0 y hy; omega)
      have ih := Scale_l0 hn hd v h1 l post (pre ++ [x]) (putR o x.f0 (n * (a + x.f1) / d - n * a / d)) (a + x.f1) (putR_tk h0 (by omega)) hx.2 (by omega) (by omega) (by rw [putR_sm]; omega) (by rw [show a + x.f1 + sm post = a + (x.f1 + sm post) by omega]; exact hM) (by simpa using hl) (by have := putR_len o x.f0 (n * (a + x.f1) / d - n * a / d); omega)
      rw [← mid_snoc] at ih
      rw [if_pos (show 0 < (⟨x.f0, n * (a + x.f1) / d - n * a / d⟩ : S48).f1 by show 0 < n * (a + x.f1) / d - n * a / d; omega)]
      refine Ev.congr (fun k => (if_pos c).trans ?_) ih
      rw [ew, rjoin, hj, Option.bind_some]
    · have e0 : n * (a + x.f1) / d = n * a / d := by omega
      have ih := Scale_l0 hn hd v h1 l post (pre ++ [x]) o (a + x.f1) h0 hx.2 (by omega) (by omega) (by omega) (by rw [show a + x.f1 + sm post = a + (x.f1 + sm post) by omega]; exact hM) (by simpa using hl) (by omega)
      rw [← mid_snoc] at ih
      rw [if_neg (show ¬ 0 < (⟨x.f0, n * (a + x.f1) / d - n * a / d⟩ : S48).f1 by show ¬ 0 < n * (a + x.f1) / d - n * a / d; omega)]
      exact Ev.congr (fun k => if_neg c) ih
theorem Scale_ev {l : List ByteArray} {r : List S48} {n d : Int} (hs : StrsOk l) (hl : l.length ≤ 100000) (hr : r.length ≤ 140737488351232) (hn : (Lit.int .i64 n).wf = true) (hd : (Lit.int .i64 d).wf = true) : Ev (fun k => remap_Scale.f k l r n d) (sclV l r n d) := by
  unfold sclV
  refine Ev.bind (Check_ev hs (by omega) hr) ?_
  by_cases c : chkV l r = 0
  · rw [if_pos c]
    refine Ev.congr (fun k => if_pos c) (Ev.bind (ratioValid_ev hn hd) ?_)
    have h := chk_0 c
    have h0 := smM_nonneg h.2.2.1
    have hbad : Ev (fun k => remap_Scale.j0 k true l r n d) ([], [], 1) := Ev.step (f := fun _ => some ([], [], 1)) (fun k => by simp only [remap_Scale.j0]; rfl) (Ev.now _)
    by_cases v : vldR n d = true
    · refine Ev.congr (fun k => if_pos v) ?_
      by_cases c1 : n < 1
      · rw [decide_eq_true c1, if_neg (fun h => by omega)]
        exact hbad
      · rw [decide_eq_false c1, if_pos ⟨v, by omega⟩]
        have hv := vldR_iff v
        have hS := ratioScale_ev hn hd v (by omega) h0
        have hL := Long_ev hs (by omega) hr
        rw [show longC l r = sm r from if_pos c] at hL
        have hbad3 : Ev (fun k => remap_Scale.j1 k true l r n d) ([], [], 3) := Ev.step (f := fun _ => some ([], [], 3)) (fun k => by simp only [remap_Scale.j1]; rfl) (Ev.now _)
        refine Ev.step (f := fun k => (capture_Long.f k l r).bind fun t571 => ((ratio_Scale.f k n d t571).bind fun bt572 => (if bt572.2 = 0 then (remap_Scale.j1 k (decide (bt572.1 > 1099511627776)) l r n d) else (remap_Scale.j1 k true l r n d)))) (fun k => ?_) (Ev.bind hL (Ev.bind hS ?_))
        · simp only [remap_Scale.j0]
          rw [if_neg (by decide)]
        · by_cases c2 : sm r ≤ 4294967296
          · rw [if_pos c2]
            refine Ev.congr (fun k => if_pos rfl) ?_
            by_cases c3 : n * sm r / d > 1099511627776
            · rw [if_neg (fun h => by omega)]
              show Ev (fun k => remap_Scale.j1 k (decide (n * sm r / d > 1099511627776)) l r n d) _
              rw [decide_eq_true c3]
              exact hbad3
            · rw [if_pos ⟨c2, by omega⟩]
              show Ev (fun k => remap_Scale.j1 k (decide (n * sm r / d > 1099511627776)) l r n d) _
              rw [decide_eq_false c3]
              have e0 : n * 0 / d = 0 := by
                rw [Int.mul_zero]
                exact Int.zero_ediv d
              have hg := Scale_l0 hn hd v (by omega) l r [] [] 0 (fun y hy => by simp at hy) h.2.2.1.tk (by omega) (by omega) (by rw [e0]; rfl) (by rw [Int.zero_add]; omega) (by simpa using h.1) (by simpa using h.1)
              rw [e0] at hg
              refine Ev.step (fun k => ?_) hg
              simp only [remap_Scale.j1]
              rw [if_neg (by decide), clone_str (by omega), Option.bind_some]
              rfl
          · rw [if_neg c2, if_neg (fun h => c2 h.1)]
            exact Ev.congr (fun k => if_neg (by decide)) hbad3
    · rw [if_neg (fun h => v h.1)]
      exact Ev.congr (fun k => if_neg v) hbad
  · rw [if_neg c]
    exact Ev.congr (fun k => if_neg c) (Ev.now _)
def mulR (q : Int) (r : List S48) : List S48 := r.map (fun x => (⟨x.f0, q * x.f1⟩ : S48))
theorem sclR_mul (q : Int) : ∀ (r : List S48) (a : Int), sclR q 1 a r = mulR q r
  | [], a => rfl
  | x :: r, a => by
    have ih := sclR_mul q r (a + x.f1)
    unfold sclR
    rw [ih]
    show (⟨x.f0, q * (a + x.f1) / 1 - q * a / 1⟩ : S48) :: mulR q r = (⟨x.f0, q * x.f1⟩ : S48) :: mulR q r
    rw [Int.ediv_one, Int.ediv_one, Int.mul_add, show q * a + q * x.f1 - q * a = q * x.f1 by omega]
theorem mulR_ok {m q : Int} (hq : 1 ≤ q) {r : List S48} (h : RunsM m r) : RunsM m (mulR q r) := by
  intro y hy
  obtain ⟨x, hx, rfl⟩ := List.mem_map.1 hy
  have h1 := h x hx
  refine ⟨h1.1, h1.2.1, ?_⟩
  show 1 ≤ q * x.f1
  have : 1 * 1 ≤ q * x.f1 := Int.mul_le_mul hq h1.2.2 (by omega) (by omega)
  omega
theorem mulR_sm (q : Int) : ∀ (r : List S48), sm (mulR q r) = q * sm r
  | [] => (Int.mul_zero q).symm
  | x :: r => by
    have := mulR_sm q r
    show q * x.f1 + sm (mulR q r) = q * (x.f1 + sm r)
    rw [this, Int.mul_add]
theorem clnZ_cln : ∀ (l o : List S48), Tk l → clnZ o l = cln o l
  | [], o, h => rfl
  | x :: l, o, h => by
    have hx := h.cons
    unfold clnZ
    rw [if_pos (by omega), clnZ_cln l _ hx.2]
    rfl
theorem cln_at {m : Int} : ∀ (l : List S48) {o : List S48} {t : Int}, RunsM m o → RunsM m l → 0 ≤ t → atS (cln o l) t = atS (o ++ l) t
  | [], o, t, ho, hl, ht => by rw [List.append_nil]; rfl
  | x :: l, o, t, ho, hl, ht => by
    have hx := hl.cons
    have h1 := putR_ok (v := x.f0) (t := x.f1) ho ⟨hx.1.1, hx.1.2.1⟩ hx.1.2.2
    show atS (cln (putR o x.f0 x.f1) l) t = _
    rw [cln_at l h1 hx.2 ht, atS_append _ _ h1 ht, atS_append _ _ ho ht, putR_sm, atS_putR ho ht (by omega), atS_cons]
    by_cases c : t < sm o
    · rw [if_pos (by omega), if_pos c, if_pos c]
    · rw [if_neg c, if_neg c]
      by_cases c1 : t - sm o < x.f1
      · rw [if_pos (by omega), if_pos c1, if_pos c1]
      · rw [if_neg (by omega), if_neg c1, show t - (sm o + x.f1) = t - sm o - x.f1 by omega]
theorem mulR_at {q : Int} (hq : 1 ≤ q) : ∀ (r : List S48) (t : Int), 0 ≤ t → Tk r → atS (mulR q r) t = atS r (t / q)
  | [], t, ht, h => rfl
  | x :: r, t, ht, h => by
    have hx := h.cons
    show (if t < q * x.f1 then (x.f0, true) else atS (mulR q r) (t - q * x.f1)) = (if t / q < x.f1 then (x.f0, true) else atS r (t / q - x.f1))
    by_cases c : t < q * x.f1
    · rw [if_pos c, if_pos (Int.ediv_lt_of_lt_mul (by omega) (by rw [Int.mul_comm]; exact c))]
    · have h1 : x.f1 ≤ t / q := Int.le_ediv_of_mul_le (by omega) (by rw [Int.mul_comm]; omega)
      rw [if_neg c, if_neg (by omega), mulR_at hq r _ (by omega) hx.2]
      have e : (t - q * x.f1) / q = t / q - x.f1 := by
        have h2 := Int.add_mul_ediv_left t (-x.f1) (show q ≠ 0 by omega)
        rw [Int.mul_neg] at h2
        rw [show t - q * x.f1 = t + -(q * x.f1) by omega, h2]
        omega
      rw [e]
theorem vldR_one {q : Int} (h : 1 ≤ q ∧ q ≤ 1000) : vldR q 1 = true := by
  unfold vldR
  exact decide_eq_true ⟨by omega, by omega, by omega, by omega, Nat.gcd_one_right _⟩
theorem sclV_one {l : List ByteArray} {r : List S48} {q : Int} (hc : chkV l r = 0) (hq : 1 ≤ q ∧ q ≤ 1000) (hs : sm r ≤ 1073741824) : sclV l r q 1 = (l, cln [] (mulR q r), 0) ∧ chkV l (cln [] (mulR q r)) = 0 ∧ sm (cln [] (mulR q r)) = q * sm r := by
  have h := chk_0 hc
  have h0 := smM_nonneg h.2.2.1
  have hb : q * sm r ≤ 1099511627776 := by
    have h1 : q * sm r ≤ 1000 * sm r := Int.mul_le_mul_of_nonneg_right hq.2 h0
    omega
  have hok := mulR_ok hq.1 h.2.2.1
  have hlen := cln_len (mulR q r) []
  rw [show (mulR q r).length = r.length by simp [mulR]] at hlen
  simp only [List.length_nil] at hlen
  have es : sm (cln [] (mulR q r)) = q * sm r := by
    rw [cln_sm, mulR_sm]
    simp only [sm]
    omega
  refine ⟨?_, chkV_of (by omega) h.2.1 (cln_ok _ nilM hok) (by omega), es⟩
  unfold sclV
  rw [if_pos hc, if_pos ⟨vldR_one hq, hq.1⟩, if_pos ⟨by omega, by rw [Int.ediv_one]; exact hb⟩, sclR_mul, clnZ_cln _ _ hok.tk]
theorem mulR_1 : ∀ (r : List S48), mulR 1 r = r
  | [] => rfl
  | x :: r => by
    have := mulR_1 r
    show (⟨x.f0, 1 * x.f1⟩ : S48) :: mulR 1 r = x :: r
    rw [this, Int.one_mul]
theorem RemapScales_pure {l : List ByteArray} {r : List S48} {n t : Int} (hs : StrsOk l) (ht : (Lit.int .i64 t).wf = true) : ∃ k, signalbenchlaw12_RemapScales.f k l r n t = some true := by
  have ht' := wf64 ht
  refine Ev.rounds (Ev.bind lives12_ev (Ev.congr (fun k => if_pos rfl) ?_))
  have hj : Ev (fun k => signalbenchlaw12_RemapScales.j0 k n t true l r) true := Ev.step (f := fun _ => some true) (fun k => by simp only [signalbenchlaw12_RemapScales.j0]; rfl) (Ev.now _)
  rw [few12_eq]
  refine Ev.congr (fun k => Option.bind_some _ _) ?_
  by_cases c : fewV12 l r = true
  · have hf : l.length ≤ 60 ∧ r.length ≤ 500 := of_decide_eq_true c
    refine Ev.congr (fun k => if_pos c) ?_
    by_cases c1 : n < 1
    · exact Ev.congr (fun k => if_pos c1) hj
    · refine Ev.congr (fun k => if_neg c1) ?_
      by_cases c2 : n > 1000
      · exact Ev.congr (fun k => if_pos c2) hj
      · refine Ev.congr (fun k => if_neg c2) (Ev.bind (Check_ev hs (by omega) (by omega)) ?_)
        by_cases c3 : chkV l r = 0
        · refine Ev.congr (fun k => if_pos c3) (Ev.bind (Long_ev hs (by omega) (by omega)) ?_)
          have eL : longC l r = sm r := if_pos c3
          rw [eL]
          by_cases c4 : sm r > 1073741824
          · rw [decide_eq_true c4]
            exact hj
          · rw [decide_eq_false c4]
            have h := chk_0 c3
            have h0 := smM_nonneg h.2.2.1
            have w1 : (Lit.int .i64 1).wf = true := by decide
            have wn : (Lit.int .i64 n).wf = true := by
              simp [Lit.wf, IntKind.min, IntKind.max, IntKind.bits, IntKind.signed]
              omega
            have s1 := sclV_one (q := 1) c3 (by omega) (by omega)
            have sn := sclV_one (q := n) c3 (by omega) (by omega)
            have l1 := cln_len (mulR 1 r) []
            have ln := cln_len (mulR n r) []
            rw [show (mulR 1 r).length = r.length by simp [mulR]] at l1
            rw [show (mulR n r).length = r.length by simp [mulR]] at ln
            simp only [List.length_nil] at l1 ln
            have d1 := Scale_ev (r := r) hs (show l.length ≤ 100000 by omega) (by omega) w1 w1
            have dn := Scale_ev (r := r) hs (show l.length ≤ 100000 by omega) (by omega) wn w1
            rw [s1.1] at d1
            rw [sn.1] at dn
            have hS := Same_ev (r := cln [] (mulR 1 r)) (s := r) hs hs (by omega) (by omega) (by omega) (by omega)
            have eS : samV l (cln [] (mulR 1 r)) l r = true := by
              unfold samV
              have e1 : eqSV l l = true := by
                unfold eqSV
                rw [if_pos rfl]
                exact eqS_refl l
              have e2 : eqRV (cln [] r) (cln [] r) = true := by
                unfold eqRV
                rw [if_pos rfl]
                exact eqR_refl _
              rw [if_pos ⟨s1.2.1, c3, e1⟩, mulR_1, cln_jn, cln_jn, jn_jn, ← cln_jn]
              exact e2
            rw [eS] at hS
            have hLn := Long_ev (r := cln [] (mulR n r)) hs (by omega) (by omega)
            have eLn : longC l (cln [] (mulR n r)) = n * sm r := by
              unfold longC
              rw [if_pos sn.2.1, sn.2.2]
            rw [eLn] at hLn
            have hL := Long_ev (r := r) hs (by omega) (by omega)
            rw [eL] at hL
            have hbn : n * sm r ≤ 1099511627776 := by
              have h1 : n * sm r ≤ 1000 * sm r := Int.mul_le_mul_of_nonneg_right (by omega) h0
              omega
            have hb0 : 0 ≤ n * sm r := Int.mul_nonneg (by omega) h0
            have ew : wrap64 (n * sm r) = n * sm r := w64 (by omega) (by omega)
            have hA1 := At_ev (r := cln [] (mulR n r)) (t := t) hs (by omega) (by omega) ht'.2
            have htail : Ev (fun k => signalbenchlaw12_RemapScales.j1 k n t false l r l (cln [] (mulR n r))) true := by
              have hj2 : Ev (fun k => signalbenchlaw12_RemapScales.j2 k n t true l r l (cln [] (mulR n r))) true := Ev.step (f := fun _ => some true) (fun k => by simp only [signalbenchlaw12_RemapScales.j2]; rfl) (Ev.now _)
              by_cases t0 : t < 0
              · refine Ev.step (fun k => ?_) hj2
                simp only [signalbenchlaw12_RemapScales.j1]
                rw [if_neg (by decide), if_pos t0]
              · refine Ev.step (f := fun k => (capture_Long.f k l (cln [] (mulR n r))).bind fun t714 => (signalbenchlaw12_RemapScales.j2 k n t (decide (t ≥ t714)) l r l (cln [] (mulR n r)))) (fun k => ?_) (Ev.bind hLn ?_)
                · simp only [signalbenchlaw12_RemapScales.j1]
                  rw [if_neg (by decide), if_neg t0]
                · by_cases t1 : t ≥ n * sm r
                  · rw [decide_eq_true t1]
                    exact hj2
                  · rw [decide_eq_false t1]
                    have et : Int.tdiv t n = t / n := Int.tdiv_eq_ediv_of_nonneg (by omega)
                    have q0 : 0 ≤ t / n := Int.ediv_nonneg (by omega) (by omega)
                    have q1 : t / n ≤ t := Int.ediv_le_self n (by omega)
                    have ewt : wrap64 (t / n) = t / n := w64 (by omega) (by omega)
                    have hA2 := At_ev (r := r) (t := t / n) hs (by omega) (by omega) (by omega)
                    have ea : atC l (cln [] (mulR n r)) t = atC l r (t / n) := by
                      unfold atC
                      rw [if_neg t0, if_pos sn.2.1, if_neg (by omega), if_pos c3, cln_at _ nilM (mulR_ok (by omega) h.2.2.1) (by omega), List.nil_append, mulR_at (by omega) r t (by omega) h.2.2.1.tk]
                    rw [ea] at hA1
                    refine Ev.step (f := fun k => (capture_At.f k l (cln [] (mulR n r)) t).bind fun bt715 => ((capture_At.f k l r (t / n)).bind fun bt717 => (some (bt715.1 == bt717.1)))) (fun k => ?_) (Ev.bind hA1 (Ev.bind hA2 ?_))
                    · simp only [signalbenchlaw12_RemapScales.j2]
                      rw [if_neg (by decide)]
                      refine congrArg _ (funext fun _ => ?_)
                      rw [if_neg (show ¬ n = 0 by omega), et, ewt]
                    · rw [show ((atC l r (t / n)).1 == (atC l r (t / n)).1) = true from beq_self_eq_true _]
                      exact Ev.now _
            refine Ev.step (f := fun k => (remap_Scale.f k l r 1 1).bind fun bt695 => ((remap_Scale.f k l r n 1).bind fun bt703 => (if bt695.2.2 = 0 then ((capture_Same.f k bt695.1 bt695.2.1 l r).bind fun t711 => (if t711 = true then (if bt703.2.2 = 0 then ((capture_Long.f k bt703.1 bt703.2.1).bind fun t712 => ((capture_Long.f k l r).bind fun t713 => (signalbenchlaw12_RemapScales.j1 k n t (t712 != (wrap64 (n * t713))) l r bt703.1 bt703.2.1))) else (signalbenchlaw12_RemapScales.j1 k n t true l r bt703.1 bt703.2.1)) else (signalbenchlaw12_RemapScales.j1 k n t true l r bt703.1 bt703.2.1))) else (signalbenchlaw12_RemapScales.j1 k n t true l r bt703.1 bt703.2.1)))) (fun k => ?_) (Ev.bind d1 (Ev.bind dn (Ev.congr (fun k => if_pos rfl) (Ev.bind hS (Ev.congr (fun k => (if_pos rfl).trans (if_pos rfl)) (Ev.bind hLn (Ev.bind hL ?_)))))))
            · simp only [signalbenchlaw12_RemapScales.j0]
              rw [if_neg (by decide)]
            · rw [ew, bne_self_eq_false]
              exact htail
        · exact Ev.congr (fun k => if_neg c3) hj
  · exact Ev.congr (fun k => if_neg c) hj
end Go.Proofs.Ytllpgidmdomfcaa
