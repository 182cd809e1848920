/- The law RemapTimes as a plain statement on numbers and lists: with enough rounds it answers true; conditions: each number is one of its kind, no list or string is longer than its memory allows. -/
import Derived.Laws.BitsAllLaws
import Derived.WalkKit
import Derived.Test.YtllpgidmdomfcaaWMore
import Derived.Laws.Strings
import Derived.Test.YtllpgidmdomfcaaQx0
import Derived.Test.YtllpgidmdomfcaaQx2
import Derived.Test.YtllpgidmdomfcaaQx3
import Derived.Test.YtllpgidmdomfcaaQx4
import Derived.Test.YtllpgidmdomfcaaQx5
import Derived.Test.YtllpgidmdomfcaaQx6
import Derived.Test.YtllpgidmdomfcaaQx7
import Derived.Test.YtllpgidmdomfcaaQx8
import Derived.Test.YtllpgidmdomfcaaQx9
import Derived.Test.YtllpgidmdomfcaaQx11
import Derived.Test.YtllpgidmdomfcaaQx12
import Derived.Test.YtllpgidmdomfcaaQx13
import Derived.Test.YtllpgidmdomfcaaQx14
import Derived.Test.YtllpgidmdomfcaaQx15
import Derived.Test.YtllpgidmdomfcaaQx16
import Derived.Test.YtllpgidmdomfcaaQx17
import Derived.Test.YtllpgidmdomfcaaQx18
import Derived.Test.YtllpgidmdomfcaaQx19
import Derived.Test.YtllpgidmdomfcaaQx21
import Derived.Test.YtllpgidmdomfcaaQx24
namespace Go.Proofs.Ytllpgidmdomfcaa
open Go Go.RowKit Go.Proofs.YtllpgidmdomfcaaW.PrintWords Go.Proofs.YtllpgidmdomfcaaW.PrintLast Go.Proofs.Ytllpgidmdomfcaa.Q
set_option linter.unusedVariables false
theorem w64 {x : Int} (h0 : -9223372036854775808 ≤ x) (h1 : x ≤ 9223372036854775807) : wrap64 x = x := by
  unfold wrap64
  omega
theorem wf64 {x : Int} (h : (Lit.int .i64 x).wf = true) : -9223372036854775808 ≤ x ∧ x ≤ 9223372036854775807 := by
  simp [Lit.wf, IntKind.min, IntKind.max, IntKind.bits, IntKind.signed] at h
  omega
theorem succ_mid {α : Type} (pre : List α) (x : α) (h : pre.length ≤ 9223372036854775806) : wrap64 ((pre.length : Int) + 1) = ((pre ++ [x]).length : Int) := by
  rw [w64 (by omega) (by omega)]
  simp
theorem wrap01 : wrap64 (0 + 1) = 1 := by
  unfold wrap64
  rfl
theorem mid_snoc {α : Type} (pre post : List α) (x : α) : pre ++ x :: post = (pre ++ [x]) ++ post := by simp
def sm : List S48 → Int
  | [] => 0
  | x :: l => x.f1 + sm l
def RunsOk (l : List S48) : Prop := ∀ x ∈ l, (x.f0 = 0 ∨ x.f0 = 1) ∧ 1 ≤ x.f1
theorem rd_mid (pre post : List S48) (x : S48) : rd_T48 (pre ++ x :: post) (pre.length : Int) = x := by simp [rd_T48, List.getD]
theorem mid_lt (pre post : List S48) (x : S48) : (pre.length : Int) < ((pre ++ x :: post).length : Int) := by
  simp only [List.length_append, List.length_cons]
  omega
theorem sm_append : ∀ (a b : List S48), sm (a ++ b) = sm a + sm b
  | [], b => by simp [sm]
  | x :: a, b => by
    have := sm_append a b
    simp only [List.cons_append, sm]
    omega
theorem RunsOk.cons {x : S48} {l : List S48} (h : RunsOk (x :: l)) : ((x.f0 = 0 ∨ x.f0 = 1) ∧ 1 ≤ x.f1) ∧ RunsOk l := ⟨h x (by simp), fun y hy => h y (by simp [hy])⟩
theorem RunsOk.left {a b : List S48} (h : RunsOk (a ++ b)) : RunsOk a := fun x hx => h x (List.mem_append_left _ hx)
theorem last_at (o : List S48) (x : S48) (h : o.length ≤ 9223372036854775806) : wrap64 (((o ++ [x]).length : Int) - 1) = (o.length : Int) := by
  rw [w64 (by simp only [List.length_append, List.length_cons, List.length_nil]; omega) (by simp only [List.length_append, List.length_cons, List.length_nil]; omega)]
  simp
theorem rd_last (o : List S48) (x : S48) : rd_T48 (o ++ [x]) (o.length : Int) = x := rd_mid o [] x
theorem set_last (o : List S48) (x y : S48) : (o ++ [x]).set ((o.length : Int)).toNat y = o ++ [y] := by
  rw [Int.toNat_natCast, List.set_append_right _ _ (Nat.le_refl _), Nat.sub_self]
  rfl
theorem ratio_common_ev : ∀ (b a : Nat), Ev (fun k => ratio_common.f k (a : Int) (b : Int)) ((Nat.gcd a b : Nat) : Int) := by
  intro b
  induction b using Nat.strongRecOn with
  | _ b ih =>
    intro a
    refine Ev.congr (f := fun k => ratio_common.l0 k (a : Int) (b : Int)) (fun k => rfl) ?_
    by_cases c : b = 0
    · subst c
      rw [Nat.gcd_zero_right]
      refine Ev.step (f := fun _ => some (a : Int)) (fun k => ?_) (Ev.now _)
      simp only [ratio_common.l0]
      rw [if_pos (by omega)]
    · have h := ih (a % b) (Nat.mod_lt _ (by omega)) b
      rw [show Nat.gcd a b = Nat.gcd b (a % b) by rw [Nat.gcd_comm a b, Nat.gcd_rec b a, Nat.gcd_comm]]
      refine Ev.step (fun k => ?_) h
      simp only [ratio_common.l0]
      rw [if_neg (by omega)]
      rfl
theorem ref_gcd_ev : ∀ (b a : Nat), Ev (fun k => signalbenchref01_gcd.f k (a : Int) (b : Int)) ((Nat.gcd a b : Nat) : Int) := by
  intro b
  induction b using Nat.strongRecOn with
  | _ b ih =>
    intro a
    by_cases c : b = 0
    · subst c
      rw [Nat.gcd_zero_right]
      refine Ev.step (f := fun _ => some (a : Int)) (fun k => ?_) (Ev.now _)
      simp only [signalbenchref01_gcd.f]
      rw [if_pos (by omega)]
    · have h := ih (a % b) (Nat.mod_lt _ (by omega)) b
      rw [show Nat.gcd a b = Nat.gcd b (a % b) by rw [Nat.gcd_comm a b, Nat.gcd_rec b a, Nat.gcd_comm]]
      refine Ev.step (f := fun k => (signalbenchref01_gcd.f k (b : Int) (((a % b : Nat)) : Int)).bind fun t => some t) (fun k => ?_) (Ev.bind h (Ev.now _))
      simp only [signalbenchref01_gcd.f]
      rw [if_neg (by omega)]
      rfl
theorem size_abs {n : Int} (h : (Lit.int .i64 n).wf = true) : (if n < 0 then (some (IntKind.u64.wrap ((IntKind.u64.wrap (wrap64 (-(wrap64 (n + 1))))) + 1))) else (some (IntKind.u64.wrap n))) = some ((n.natAbs : Nat) : Int) := by
  have hw := wf64 h
  by_cases c : n < 0
  · rw [if_pos c, w64 (x := n + 1) (by omega) (by omega), w64 (by omega) (by omega), IntKind.wrap_u64, IntKind.wrap_u64]
    congr 1
    omega
  · rw [if_neg c, IntKind.wrap_u64]
    congr 1
    omega
def wd (c : Int) : Bool := if 97 ≤ c ∧ c ≤ 122 then true else if 48 ≤ c ∧ c ≤ 57 then true else if c = 95 then true else false
def wAll (s : ByteArray) : Nat → Nat → Bool
  | 0, _ => true
  | m + 1, i => if wd (bt s (i : Int)) = true then wAll s m (i + 1) else false
def nmOk (s : ByteArray) : Bool := if s.size = 0 then false else if 16 < s.size then false else if 97 ≤ bt s 0 ∧ bt s 0 ≤ 122 then wAll s s.size 0 else false
theorem w32 {x : Int} (h0 : 0 ≤ x) (h1 : x ≤ 255) : wrap32 x = x := by
  unfold wrap32
  omega
theorem nil_iff (s : ByteArray) : s.toList = ([] : List UInt8) ↔ s.size = 0 := by
  rw [ByteArray.toList_eq, ← List.length_eq_zero_iff, data_length]
theorem wd_1 {c : Int} (h : 97 ≤ c ∧ c ≤ 122) : wd c = true := by
  unfold wd
  rw [if_pos h]
theorem wd_2 {c : Int} (h : 48 ≤ c ∧ c ≤ 57) : wd c = true := by
  unfold wd
  rw [if_neg (by omega), if_pos h]
theorem wd_3 {c : Int} (h : c = 95) : wd c = true := by
  unfold wd
  rw [if_neg (by omega), if_neg (by omega), if_pos h]
theorem wd_0 {c : Int} (h : ¬ (97 ≤ c ∧ c ≤ 122)) (h1 : ¬ (48 ≤ c ∧ c ≤ 57)) (h2 : ¬ c = 95) : wd c = false := by
  unfold wd
  rw [if_neg h, if_neg h1, if_neg h2]
theorem lex_letter_eq (c : Int) : lex_letter.f c = some (decide (97 ≤ c ∧ c ≤ 122)) := by
  unfold lex_letter.f
  by_cases h : 97 ≤ c <;> simp [h]
theorem lex_word_eq (c : Int) : lex_word.f c = some (wd c) := by
  unfold lex_word.f lex_digit.f wd
  rw [lex_letter_eq]
  by_cases h : 97 ≤ c ∧ c ≤ 122
  · simp [h]
  · by_cases h1 : 48 ≤ c
    · by_cases h2 : c ≤ 57
      · simp [h, h1, h2]
      · by_cases h3 : c = 95 <;> simp [h, h1, h2, h3]
    · by_cases h3 : c = 95 <;> simp [h, h1, h3]
theorem lex_Name_l0 (s : ByteArray) (hs : s.size ≤ 140737488351232) : ∀ (m i : Nat), i + m = s.size → Ev (fun k => lex_Name.l0 k s (s.size : Int) (i : Int)) (wAll s m i)
  | 0, i, h => by
    refine Ev.step (f := fun _ => some true) (fun k => ?_) (Ev.now _)
    simp only [lex_Name.l0]
    rw [if_neg (by omega)]
  | m + 1, i, h => by
    have hb := bt_range s (i : Int)
    have hst : ∀ k, lex_Name.l0 (k + 1) s (s.size : Int) (i : Int) = if wd (bt s (i : Int)) = true then lex_Name.l0 k s (s.size : Int) ((i + 1 : Nat) : Int) else some false := by
      intro k
      simp only [lex_Name.l0]
      rw [if_pos (by omega), if_pos (by omega), if_pos (by omega), lex_word_eq, w32 hb.1 hb.2, Option.bind_some, w64 (by omega) (by omega)]
      rfl
    unfold wAll
    by_cases c : wd (bt s (i : Int)) = true
    · rw [if_pos c]
      exact Ev.step (fun k => (hst k).trans (if_pos c)) (lex_Name_l0 s hs m (i + 1) (by omega))
    · rw [if_neg c]
      exact Ev.step (fun k => (hst k).trans (if_neg c)) (Ev.now _)
theorem lex_Name_ev (s : ByteArray) (hs : s.size ≤ 140737488351232) : Ev (fun k => lex_Name.f k s) (nmOk s) := by
  have hb := bt_range s 0
  have hj : Ev (fun k => lex_Name.j0 k s true) false := Ev.step (f := fun _ => some false) (fun k => by simp only [lex_Name.j0]; rfl) (Ev.now _)
  unfold nmOk
  by_cases h0 : s.size = 0
  · rw [if_pos h0]
    refine Ev.congr (fun k => ?_) hj
    unfold lex_Name.f
    rw [if_pos ((nil_iff s).2 h0)]
  · rw [if_neg h0]
    have hn : ¬ s.toList = [] := fun h => h0 ((nil_iff s).1 h)
    by_cases h1 : 16 < s.size
    · rw [if_pos h1]
      refine Ev.congr (fun k => ?_) hj
      unfold lex_Name.f
      rw [if_neg hn, if_pos (by omega)]
    · rw [if_neg h1]
      have e : ∀ k, lex_Name.f k s = lex_Name.j0 k s (!(decide (97 ≤ bt s 0 ∧ bt s 0 ≤ 122))) := by
        intro k
        unfold lex_Name.f
        rw [if_neg hn, if_neg (by omega), if_pos (by omega), lex_letter_eq, w32 hb.1 hb.2]
        rfl
      refine Ev.congr e ?_
      by_cases h2 : 97 ≤ bt s 0 ∧ bt s 0 ≤ 122
      · rw [if_pos h2, decide_eq_true h2]
        refine Ev.step (fun k => ?_) (lex_Name_l0 s hs s.size 0 (by omega))
        simp only [lex_Name.j0]
        rw [if_neg (by decide)]
        rfl
      · rw [if_neg h2, decide_eq_false h2]
        exact hj
theorem ref_name_step (s : ByteArray) (hs : s.size ≤ 140737488351232) (i : Nat) (h : i < s.size) (k : Nat) :
    signalbenchref09_name.l0 (k + 1) s (i : Int) = if wd (bt s (i : Int)) = true then signalbenchref09_name.l0 k s ((i + 1 : Nat) : Int) else some false := by
  have e : wrap64 ((i : Int) + 1) = ((i + 1 : Nat) : Int) := by
    rw [w64 (by omega) (by omega)]
    rfl
  simp only [signalbenchref09_name.l0]
  rw [if_pos (by omega), if_pos (by omega), e]
  generalize bt s (i : Int) = c
  by_cases h1 : c ≥ 97
  · by_cases h2 : c ≤ 122
    · rw [if_pos h1, if_pos (by omega), if_pos h2, wd_1 ⟨h1, h2⟩, if_pos rfl]
    · rw [if_pos h1, if_pos (by omega), if_neg h2, if_neg (by omega), if_neg (by omega), wd_0 (by omega) (by omega) (by omega), if_neg (by decide)]
  · rw [if_neg h1]
    by_cases h3 : c ≥ 48
    · rw [if_pos h3]
      by_cases h4 : c ≤ 57
      · rw [if_pos h4, wd_2 ⟨h3, h4⟩, if_pos rfl]
      · rw [if_neg h4]
        by_cases h5 : c = 95
        · rw [if_pos h5, wd_3 h5, if_pos rfl]
        · rw [if_neg h5, wd_0 (by omega) (by omega) h5, if_neg (by decide)]
    · rw [if_neg h3]
      by_cases h5 : c = 95
      · rw [if_pos h5, wd_3 h5, if_pos rfl]
      · rw [if_neg h5, wd_0 (by omega) (by omega) h5, if_neg (by decide)]
theorem ref_name_l0 (s : ByteArray) (hs : s.size ≤ 140737488351232) : ∀ (m i : Nat), i + m = s.size → Ev (fun k => signalbenchref09_name.l0 k s (i : Int)) (wAll s m i)
  | 0, i, h => by
    refine Ev.step (f := fun _ => some true) (fun k => ?_) (Ev.now _)
    simp only [signalbenchref09_name.l0]
    rw [if_neg (by omega)]
  | m + 1, i, h => by
    have hst := ref_name_step s hs i (by omega)
    unfold wAll
    by_cases c : wd (bt s (i : Int)) = true
    · rw [if_pos c]
      exact Ev.step (fun k => (hst k).trans (if_pos c)) (ref_name_l0 s hs m (i + 1) (by omega))
    · rw [if_neg c]
      exact Ev.step (fun k => (hst k).trans (if_neg c)) (Ev.now _)
theorem ref_name_ev (s : ByteArray) (hs : s.size ≤ 140737488351232) : Ev (fun k => signalbenchref09_name.f k s) (nmOk s) := by
  have hj : Ev (fun k => signalbenchref09_name.j0 k s true) false := Ev.step (f := fun _ => some false) (fun k => by simp only [signalbenchref09_name.j0]; rfl) (Ev.now _)
  unfold nmOk
  by_cases h0 : s.size = 0
  · rw [if_pos h0]
    refine Ev.congr (fun k => ?_) hj
    unfold signalbenchref09_name.f
    rw [if_pos ((nil_iff s).2 h0)]
  · rw [if_neg h0]
    have hn : ¬ s.toList = [] := fun h => h0 ((nil_iff s).1 h)
    by_cases h1 : 16 < s.size
    · rw [if_pos h1]
      refine Ev.congr (fun k => ?_) hj
      unfold signalbenchref09_name.f
      rw [if_neg hn, if_pos (by omega)]
    · rw [if_neg h1]
      by_cases h3 : bt s 0 < 97
      · rw [if_neg (by omega)]
        refine Ev.congr (fun k => ?_) hj
        unfold signalbenchref09_name.f
        rw [if_neg hn, if_neg (by omega), if_pos (by omega), if_pos h3]
      · have e : ∀ k, signalbenchref09_name.f k s = signalbenchref09_name.j0 k s (decide (bt s 0 > 122)) := by
          intro k
          unfold signalbenchref09_name.f
          rw [if_neg hn, if_neg (by omega), if_pos (by omega), if_neg h3]
        refine Ev.congr e ?_
        by_cases h2 : bt s 0 > 122
        · rw [if_neg (by omega), decide_eq_true h2]
          exact hj
        · rw [if_pos (by omega), decide_eq_false h2]
          refine Ev.step (fun k => ?_) (ref_name_l0 s hs s.size 0 (by omega))
          simp only [signalbenchref09_name.j0]
          rw [if_neg (by decide)]
          rfl
def StrsOk (l : List ByteArray) : Prop := ∀ s ∈ l, s.size ≤ 140737488351232
def nmA : List ByteArray → Bool
  | [] => true
  | s :: l => if nmOk s = true then nmA l else false
theorem rds_mid (pre post : List ByteArray) (x : ByteArray) : rdOf ByteArray.empty (pre ++ x :: post) (pre.length : Int) = x := by simp [rdOf, List.getD]
theorem mids_lt (pre post : List ByteArray) (x : ByteArray) : (pre.length : Int) < ((pre ++ x :: post).length : Int) := by
  simp only [List.length_append, List.length_cons]
  omega
/-- The first place of a name, or -1. -/
def ixS (s : ByteArray) : Nat → List ByteArray → Int
  | _, [] => -1
  | n, t :: l => if s.toList = t.toList then (n : Int) else ixS s (n + 1) l
theorem Index_l0 (s : ByteArray) : ∀ (post pre : List ByteArray), (pre ++ post).length ≤ 140737488351232 →
    Ev (fun k => slices_Index_string.l0 k (pre ++ post) s ((pre ++ post).length : Int) (pre.length : Int)) (ixS s pre.length post)
  | [], pre, hl => by
    refine Ev.step (f := fun _ => some (-1)) (fun k => ?_) (Ev.now _)
    simp only [slices_Index_string.l0]
    rw [if_neg (by simp)]
  | x :: post, pre, hl => by
    have hlt := mids_lt pre post x
    have hn : pre.length ≤ 9223372036854775806 := by
      simp only [List.length_append, List.length_cons] at hl
      omega
    have hst : ∀ k, slices_Index_string.l0 (k + 1) (pre ++ x :: post) s ((pre ++ x :: post).length : Int) (pre.length : Int) = if s.toList = x.toList then some (pre.length : Int) else slices_Index_string.l0 k (pre ++ x :: post) s ((pre ++ x :: post).length : Int) ((pre ++ [x]).length : Int) := by
      intro k
      simp only [slices_Index_string.l0]
      rw [rds_mid, if_pos hlt, if_pos (by omega), if_pos hlt, succ_mid _ _ hn]
    unfold ixS
    by_cases c : s.toList = x.toList
    · rw [if_pos c]
      exact Ev.step (fun k => (hst k).trans (if_pos c)) (Ev.now _)
    · rw [if_neg c]
      have ih := Index_l0 s post (pre ++ [x]) (by simpa using hl)
      rw [← mid_snoc] at ih
      have e : (pre ++ [x]).length = pre.length + 1 := by simp
      rw [e] at ih
      refine Ev.step (fun k => (hst k).trans (if_neg c)) ?_
      rw [e]
      exact ih
theorem Index_ev (l : List ByteArray) (s : ByteArray) (hl : l.length ≤ 140737488351232) : Ev (fun k => slices_Index_string.f k l s) (ixS s 0 l) := Ev.congr (fun k => rfl) (Index_l0 s l [] (by simpa using hl))
theorem Contains_ev (l : List ByteArray) (s : ByteArray) (hl : l.length ≤ 140737488351232) : Ev (fun k => slices_Contains_string.f k l s) (decide (ixS s 0 l ≥ 0)) := Ev.bind (Index_ev l s hl) (Ev.now _)
def dupS : List ByteArray → List ByteArray → Bool
  | _, [] => false
  | pre, x :: post => if ixS x 0 pre ≥ 0 then true else dupS (pre ++ [x]) post
def nmsV (l : List ByteArray) : Int := if 16 < l.length then 6 else if l.length = 0 then 1 else if nmA l = true then (if dupS [] l = true then 9 else 0) else 4
theorem checkNames_l1 : ∀ (post pre : List ByteArray), (pre ++ post).length ≤ 140737488351232 →
    Ev (fun k => capture_checkNames.l1 k (pre ++ post) (pre ++ post) ((pre ++ post).length : Int) (pre.length : Int)) (if dupS pre post = true then 9 else 0)
  | [], pre, hl => by
    refine Ev.step (f := fun _ => some 0) (fun k => ?_) ?_
    · simp only [capture_checkNames.l1]
      rw [if_neg (by simp)]
    · rw [show (if dupS pre [] = true then (9 : Int) else 0) = 0 from rfl]
      exact Ev.now _
  | x :: post, pre, hl => by
    have hlt := mids_lt pre post x
    have hn : pre.length ≤ 9223372036854775806 := by
      simp only [List.length_append, List.length_cons] at hl
      omega
    have hp : pre.length ≤ 140737488351232 := by
      simp only [List.length_append, List.length_cons] at hl
      omega
    have hst : ∀ k, capture_checkNames.l1 (k + 1) (pre ++ x :: post) (pre ++ x :: post) ((pre ++ x :: post).length : Int) (pre.length : Int) = (slices_Contains_string.f k pre x).bind fun t111 => (if t111 = true then (some 9) else (capture_checkNames.l1 k (pre ++ x :: post) (pre ++ x :: post) ((pre ++ x :: post).length : Int) ((pre ++ [x]).length : Int))) := by
      intro k
      simp only [capture_checkNames.l1]
      rw [rds_mid, if_pos hlt, if_pos (by omega), if_pos hlt, if_pos (by omega), succ_mid _ _ hn, Int.toNat_natCast, List.take_left' rfl]
    refine Ev.step hst (Ev.bind (Contains_ev pre x hp) ?_)
    unfold dupS
    by_cases c : ixS x 0 pre ≥ 0
    · rw [if_pos c, decide_eq_true c]
      exact Ev.congr (fun k => if_pos rfl) (Ev.now _)
    · rw [if_neg c, decide_eq_false c]
      have ih := checkNames_l1 post (pre ++ [x]) (by simpa using hl)
      rw [← mid_snoc] at ih
      exact Ev.congr (fun k => if_neg (by decide)) ih
theorem checkNames_l0 : ∀ (post pre : List ByteArray) (R : Int), StrsOk post → (pre ++ post).length ≤ 140737488351232 → Ev (fun k => capture_checkNames.l1 k (pre ++ post) (pre ++ post) ((pre ++ post).length : Int) 0) R →
    Ev (fun k => capture_checkNames.l0 k (pre ++ post) (pre ++ post) ((pre ++ post).length : Int) (pre.length : Int)) (if nmA post = true then R else 4)
  | [], pre, R, hs, hl, hR => by
    refine Ev.step (fun k => ?_) (Ev.congr (fun k => rfl) hR)
    simp only [capture_checkNames.l0]
    rw [if_neg (by simp)]
  | x :: post, pre, R, hs, hl, hR => by
    have hlt := mids_lt pre post x
    have hn : pre.length ≤ 9223372036854775806 := by
      simp only [List.length_append, List.length_cons] at hl
      omega
    have hst : ∀ k, capture_checkNames.l0 (k + 1) (pre ++ x :: post) (pre ++ x :: post) ((pre ++ x :: post).length : Int) (pre.length : Int) = (lex_Name.f k x).bind fun t108 => (if t108 = true then (capture_checkNames.l0 k (pre ++ x :: post) (pre ++ x :: post) ((pre ++ x :: post).length : Int) ((pre ++ [x]).length : Int)) else (some 4)) := by
      intro k
      simp only [capture_checkNames.l0]
      rw [rds_mid, if_pos hlt, if_pos (by omega), if_pos hlt, succ_mid _ _ hn]
    refine Ev.step hst (Ev.bind (lex_Name_ev x (hs x (by simp))) ?_)
    unfold nmA
    by_cases c : nmOk x = true
    · rw [if_pos c, c]
      have ih := checkNames_l0 post (pre ++ [x]) R (fun y hy => hs y (by simp [hy])) (by simpa using hl) (by rw [← mid_snoc]; exact hR)
      rw [← mid_snoc] at ih
      exact Ev.congr (fun k => if_pos rfl) ih
    · rw [if_neg c, Bool.eq_false_iff.2 c]
      exact Ev.congr (fun k => if_neg (by decide)) (Ev.now _)
theorem checkNames_ev {l : List ByteArray} (hs : StrsOk l) (hl : l.length ≤ 140737488351232) (h16 : l.length ≤ 16) : Ev (fun k => capture_checkNames.f k l) (nmsV l) := by
  unfold nmsV
  rw [if_neg (by omega)]
  by_cases c : l.length = 0
  · rw [if_pos c]
    refine Ev.congr (fun k => ?_) (Ev.now _)
    unfold capture_checkNames.f
    rw [if_pos (by omega)]
  · rw [if_neg c]
    refine Ev.congr (fun k => ?_) (checkNames_l0 l [] _ hs (by simpa using hl) (checkNames_l1 l [] (by simpa using hl)))
    unfold capture_checkNames.f
    rw [if_neg (by omega)]
    rfl
theorem refnames_l2 (x : ByteArray) (post pre : List ByteArray) (R : Int) (hl : (pre ++ x :: post).length ≤ 140737488351232) (hR : Ev (fun k => signalbenchref09_names.l1 k (pre ++ x :: post) ((pre ++ [x]).length : Int)) R) :
    ∀ (p q : List ByteArray), pre = q ++ p → Ev (fun k => signalbenchref09_names.l2 k (pre ++ x :: post) (pre.length : Int) (q.length : Int)) (if ixS x q.length p ≥ 0 then 9 else R)
  | [], q, e => by
    have e1 : pre.length = q.length := by rw [e]; simp
    have hn : pre.length ≤ 9223372036854775806 := by
      simp only [List.length_append, List.length_cons] at hl
      omega
    rw [show (if ixS x q.length [] ≥ 0 then (9 : Int) else R) = R from if_neg (by show ¬ ((-1 : Int) ≥ 0); omega)]
    refine Ev.step (fun k => ?_) hR
    simp only [signalbenchref09_names.l2]
    rw [if_neg (by omega), succ_mid _ _ hn]
  | t :: p, q, e => by
    have e1 : pre.length = q.length + (p.length + 1) := by rw [e]; simp
    have hlt := mids_lt pre post x
    have e2 : rdOf ByteArray.empty (pre ++ x :: post) (q.length : Int) = t := by
      rw [e, List.append_assoc]
      exact rds_mid q (p ++ x :: post) t
    have hn : q.length ≤ 9223372036854775806 := by
      simp only [List.length_append, List.length_cons] at hl
      omega
    have hst : ∀ k, signalbenchref09_names.l2 (k + 1) (pre ++ x :: post) (pre.length : Int) (q.length : Int) = if x.toList = t.toList then some 9 else signalbenchref09_names.l2 k (pre ++ x :: post) (pre.length : Int) ((q ++ [t]).length : Int) := by
      intro k
      simp only [signalbenchref09_names.l2]
      rw [rds_mid, e2, if_pos (by omega), if_pos (by omega), if_pos hlt, if_pos (by omega), if_pos (by omega), succ_mid _ _ hn]
    unfold ixS
    by_cases c : x.toList = t.toList
    · rw [if_pos c, if_pos (by omega)]
      exact Ev.step (fun k => (hst k).trans (if_pos c)) (Ev.now _)
    · rw [if_neg c]
      have ih := refnames_l2 x post pre R hl hR p (q ++ [t]) (by rw [e, mid_snoc])
      have e3 : (q ++ [t]).length = q.length + 1 := by simp
      rw [e3] at ih
      refine Ev.step (fun k => (hst k).trans (if_neg c)) ?_
      rw [e3]
      exact ih
theorem refnames_l1 : ∀ (post pre : List ByteArray), (pre ++ post).length ≤ 140737488351232 →
    Ev (fun k => signalbenchref09_names.l1 k (pre ++ post) (pre.length : Int)) (if dupS pre post = true then 9 else 0)
  | [], pre, hl => by
    refine Ev.step (f := fun _ => some 0) (fun k => ?_) ?_
    · simp only [signalbenchref09_names.l1]
      rw [if_neg (by simp)]
    · rw [show (if dupS pre [] = true then (9 : Int) else 0) = 0 from rfl]
      exact Ev.now _
  | x :: post, pre, hl => by
    have hlt := mids_lt pre post x
    have ih := refnames_l1 post (pre ++ [x]) (by simpa using hl)
    rw [← mid_snoc] at ih
    have h2 := refnames_l2 x post pre _ hl ih pre [] rfl
    have e : (if dupS pre (x :: post) = true then (9 : Int) else 0) = if ixS x ([] : List ByteArray).length pre ≥ 0 then 9 else if dupS (pre ++ [x]) post = true then 9 else 0 := by
      show (if (if ixS x 0 pre ≥ 0 then true else dupS (pre ++ [x]) post) = true then (9 : Int) else 0) = if ixS x 0 pre ≥ 0 then 9 else _
      by_cases c : ixS x 0 pre ≥ 0
      · rw [if_pos c, if_pos c, if_pos rfl]
      · rw [if_neg c, if_neg c]
    rw [e]
    refine Ev.step (fun k => ?_) h2
    simp only [signalbenchref09_names.l1]
    rw [if_pos hlt]
    rfl
theorem refnames_l0 : ∀ (post pre : List ByteArray) (R : Int), StrsOk post → (pre ++ post).length ≤ 140737488351232 → Ev (fun k => signalbenchref09_names.l1 k (pre ++ post) 0) R →
    Ev (fun k => signalbenchref09_names.l0 k (pre ++ post) (pre.length : Int)) (if nmA post = true then R else 4)
  | [], pre, R, hs, hl, hR => by
    refine Ev.step (fun k => ?_) (Ev.congr (fun k => rfl) hR)
    simp only [signalbenchref09_names.l0]
    rw [if_neg (by simp)]
  | x :: post, pre, R, hs, hl, hR => by
    have hlt := mids_lt pre post x
    have hn : pre.length ≤ 9223372036854775806 := by
      simp only [List.length_append, List.length_cons] at hl
      omega
    have hst : ∀ k, signalbenchref09_names.l0 (k + 1) (pre ++ x :: post) (pre.length : Int) = (signalbenchref09_name.f k x).bind fun t108 => (if t108 = true then (signalbenchref09_names.l0 k (pre ++ x :: post) ((pre ++ [x]).length : Int)) else (some 4)) := by
      intro k
      simp only [signalbenchref09_names.l0]
      rw [rds_mid, if_pos hlt, if_pos (by omega), succ_mid _ _ hn]
    refine Ev.step hst (Ev.bind (ref_name_ev x (hs x (by simp))) ?_)
    unfold nmA
    by_cases c : nmOk x = true
    · rw [if_pos c, c]
      have ih := refnames_l0 post (pre ++ [x]) R (fun y hy => hs y (by simp [hy])) (by simpa using hl) (by rw [← mid_snoc]; exact hR)
      rw [← mid_snoc] at ih
      exact Ev.congr (fun k => if_pos rfl) ih
    · rw [if_neg c, Bool.eq_false_iff.2 c]
      exact Ev.congr (fun k => if_neg (by decide)) (Ev.now _)
theorem refnames_ev {l : List ByteArray} (hs : StrsOk l) (hl : l.length ≤ 140737488351232) : Ev (fun k => signalbenchref09_names.f k l) (nmsV l) := by
  unfold nmsV
  by_cases h : 16 < l.length
  · rw [if_pos h]
    refine Ev.congr (fun k => ?_) (Ev.now _)
    unfold signalbenchref09_names.f
    rw [if_pos (by omega)]
  · rw [if_neg h]
    by_cases c : l.length = 0
    · rw [if_pos c]
      refine Ev.congr (fun k => ?_) (Ev.now _)
      unfold signalbenchref09_names.f
      rw [if_neg (by omega), if_pos (by omega)]
    · rw [if_neg c]
      refine Ev.congr (fun k => ?_) (refnames_l0 l [] _ hs (by simpa using hl) (refnames_l1 l [] (by simpa using hl)))
      unfold signalbenchref09_names.f
      rw [if_neg (by omega), if_neg (by omega)]
      rfl
/-- Levels from 0 to m, and at least one tick each. -/
def RunsM (m : Int) (l : List S48) : Prop := ∀ x ∈ l, 0 ≤ x.f0 ∧ x.f0 ≤ m ∧ 1 ≤ x.f1
def rOk (m : Int) : Int → List S48 → Bool
  | left, [] => true
  | left, x :: l => if 0 ≤ x.f0 ∧ x.f0 ≤ m ∧ 1 ≤ x.f1 ∧ x.f1 ≤ left then rOk m (left - x.f1) l else false
theorem RunsM.cons {m : Int} {x : S48} {l : List S48} (h : RunsM m (x :: l)) : (0 ≤ x.f0 ∧ x.f0 ≤ m ∧ 1 ≤ x.f1) ∧ RunsM m l := ⟨h x (by simp), fun y hy => h y (by simp [hy])⟩
theorem smM_nonneg {m : Int} : ∀ {l : List S48}, RunsM m l → 0 ≤ sm l
  | [], _ => Int.le_refl _
  | x :: l, h => by
    have h1 := h.cons
    have h2 := smM_nonneg h1.2
    simp only [sm]
    omega
theorem rOk_iff {m : Int} : ∀ {l : List S48} {left : Int}, 0 ≤ left → (rOk m left l = true ↔ RunsM m l ∧ sm l ≤ left)
  | [], left, h => by simp [rOk, RunsM, sm, h]
  | x :: l, left, h => by
    unfold rOk
    by_cases c : 0 ≤ x.f0 ∧ x.f0 ≤ m ∧ 1 ≤ x.f1 ∧ x.f1 ≤ left
    · rw [if_pos c, rOk_iff (l := l) (by omega)]
      simp only [RunsM, sm, List.mem_cons, forall_eq_or_imp]
      constructor
      · rintro ⟨h1, h2⟩
        exact ⟨⟨⟨c.1, c.2.1, c.2.2.1⟩, h1⟩, by omega⟩
      · rintro ⟨⟨h1, h2⟩, h3⟩
        exact ⟨h2, by omega⟩
    · rw [if_neg c]
      simp only [Bool.false_eq_true, false_iff]
      rintro ⟨h1, h2⟩
      have h3 := h1.cons
      have h4 := smM_nonneg h3.2
      simp only [sm] at h2
      exact c ⟨h3.1.1, h3.1.2.1, h3.1.2.2, by omega⟩
def mk (l : List ByteArray) : Int := wrap64 ((shl .i64 1 (l.length : Int)) - 1)
def chkV (l : List ByteArray) (r : List S48) : Int := if 262144 < r.length then 6 else if nmsV l = 0 then (if rOk (mk l) 1099511627776 r = true then 0 else 2) else nmsV l
theorem chk_0 {l : List ByteArray} {r : List S48} (h : chkV l r = 0) : r.length ≤ 262144 ∧ nmsV l = 0 ∧ RunsM (mk l) r ∧ sm r ≤ 1099511627776 := by
  unfold chkV at h
  by_cases c : 262144 < r.length
  · rw [if_pos c] at h
    omega
  · rw [if_neg c] at h
    by_cases c1 : nmsV l = 0
    · rw [if_pos c1] at h
      by_cases c2 : rOk (mk l) 1099511627776 r = true
      · exact ⟨by omega, c1, (rOk_iff (by omega)).1 c2⟩
      · rw [if_neg c2] at h
        omega
    · rw [if_neg c1] at h
      exact absurd h c1
theorem Check_l0 (m : Int) : ∀ (post pre : List S48) (left : Int), 0 ≤ left → left ≤ 1099511627776 → (pre ++ post).length ≤ 140737488351232 →
    Ev (fun k => capture_Check.l0 k m left (pre ++ post) ((pre ++ post).length : Int) (pre.length : Int)) (if rOk m left post = true then 0 else 2)
  | [], pre, left, h0, h1, hl => by
    rw [show (if rOk m left [] = true then (0 : Int) else 2) = 0 from rfl]
    refine Ev.step (f := fun _ => some 0) (fun k => ?_) (Ev.now _)
    simp only [capture_Check.l0]
    rw [if_neg (by simp)]
  | x :: post, pre, left, h0, h1, hl => by
    have hlt := mid_lt pre post x
    have hn : pre.length ≤ 9223372036854775806 := by
      simp only [List.length_append, List.length_cons] at hl
      omega
    unfold rOk
    by_cases c : 0 ≤ x.f0 ∧ x.f0 ≤ m ∧ 1 ≤ x.f1 ∧ x.f1 ≤ left
    · have ih := Check_l0 m post (pre ++ [x]) (left - x.f1) (by omega) (by omega) (by simpa using hl)
      rw [← mid_snoc] at ih
      rw [if_pos c]
      refine Ev.step (fun k => ?_) ih
      simp only [capture_Check.l0]
      rw [rd_mid, if_pos hlt, if_pos (by omega), if_pos hlt, if_neg (by omega), if_neg (by omega), if_neg (by omega), if_neg (by omega), w64 (by omega) (by omega), succ_mid _ _ hn]
    · rw [if_neg c, show (if false = true then (0 : Int) else 2) = 2 from rfl]
      refine Ev.step (f := fun _ => some 2) (fun k => ?_) (Ev.now _)
      simp only [capture_Check.l0]
      rw [rd_mid, if_pos hlt, if_pos (by omega), if_pos hlt]
      by_cases c1 : x.f0 < 0
      · rw [if_pos c1]
      · rw [if_neg c1]
        by_cases c2 : x.f0 > m
        · rw [if_pos c2]
        · rw [if_neg c2]
          by_cases c3 : x.f1 < 1
          · rw [if_pos c3]
          · rw [if_neg c3, if_pos (by omega)]
theorem Check_ev {l : List ByteArray} {r : List S48} (hs : StrsOk l) (hl : l.length ≤ 140737488351232) (hr : r.length ≤ 140737488351232) : Ev (fun k => capture_Check.f k l r) (chkV l r) := by
  have hj : Ev (fun k => capture_Check.j0 k true l r) 6 := Ev.step (f := fun _ => some 6) (fun k => by simp only [capture_Check.j0]; rfl) (Ev.now _)
  by_cases c : 16 < l.length
  · have e : chkV l r = 6 := by
      have e1 : nmsV l = 6 := by
        unfold nmsV
        rw [if_pos c]
      unfold chkV
      rw [e1]
      by_cases c1 : 262144 < r.length
      · rw [if_pos c1]
      · rw [if_neg c1]
        rfl
    rw [e]
    refine Ev.congr (fun k => ?_) hj
    unfold capture_Check.f
    rw [if_pos (by omega)]
  · have e : ∀ k, capture_Check.f k l r = capture_Check.j0 k (decide ((r.length : Int) > 262144)) l r := by
      intro k
      unfold capture_Check.f
      rw [if_neg (by omega)]
    refine Ev.congr e ?_
    unfold chkV
    by_cases c1 : 262144 < r.length
    · rw [if_pos c1, decide_eq_true (by omega)]
      exact hj
    · rw [if_neg c1, decide_eq_false (by omega)]
      refine Ev.step (f := fun k => (capture_checkNames.f k l).bind fun t113 => (if t113 = 0 then (capture_Check.l0 k (mk l) 1099511627776 r (r.length : Int) 0) else (some t113))) (fun k => ?_) (Ev.bind (checkNames_ev hs hl (by omega)) ?_)
      · simp only [capture_Check.j0]
        rw [if_neg (by decide)]
        rfl
      · by_cases c2 : nmsV l = 0
        · rw [if_pos c2]
          exact Ev.congr (fun k => if_pos c2) (Check_l0 (mk l) r [] 1099511627776 (by omega) (by omega) (by simpa using hr))
        · rw [if_neg c2]
          exact Ev.congr (fun k => if_neg c2) (Ev.now _)
theorem refruns_l0 (m : Int) : ∀ (post pre : List S48) (left : Int), 0 ≤ left → left ≤ 1099511627776 → (pre ++ post).length ≤ 140737488351232 →
    Ev (fun k => signalbenchref09_runs.l0 k (pre ++ post) m left (pre.length : Int)) (rOk m left post)
  | [], pre, left, h0, h1, hl => by
    refine Ev.step (f := fun _ => some true) (fun k => ?_) (Ev.now _)
    simp only [signalbenchref09_runs.l0]
    rw [if_neg (by simp)]
  | x :: post, pre, left, h0, h1, hl => by
    have hlt := mid_lt pre post x
    have hn : pre.length ≤ 9223372036854775806 := by
      simp only [List.length_append, List.length_cons] at hl
      omega
    unfold rOk
    by_cases c : 0 ≤ x.f0 ∧ x.f0 ≤ m ∧ 1 ≤ x.f1 ∧ x.f1 ≤ left
    · have ih := refruns_l0 m post (pre ++ [x]) (left - x.f1) (by omega) (by omega) (by simpa using hl)
      rw [← mid_snoc] at ih
      rw [if_pos c]
      refine Ev.step (fun k => ?_) ih
      simp only [signalbenchref09_runs.l0]
      rw [rd_mid, if_pos hlt, if_pos (by omega), if_neg (by omega), if_neg (by omega), if_neg (by omega), if_neg (by omega), w64 (by omega) (by omega), succ_mid _ _ hn]
    · rw [if_neg c]
      refine Ev.step (f := fun _ => some false) (fun k => ?_) (Ev.now _)
      simp only [signalbenchref09_runs.l0]
      rw [rd_mid, if_pos hlt, if_pos (by omega)]
      by_cases c1 : x.f0 < 0
      · rw [if_pos c1]
      · rw [if_neg c1]
        by_cases c2 : x.f0 > m
        · rw [if_pos c2]
        · rw [if_neg c2]
          by_cases c3 : x.f1 < 1
          · rw [if_pos c3]
          · rw [if_neg c3, if_pos (by omega)]
theorem refruns_ev (m : Int) {r : List S48} (hr : r.length ≤ 140737488351232) : Ev (fun k => signalbenchref09_runs.f k r m) (rOk m 1099511627776 r) :=
  Ev.congr (fun k => rfl) (refruns_l0 m r [] 1099511627776 (by omega) (by omega) (by simpa using hr))
theorem refCheck_ev {l : List ByteArray} {r : List S48} (hs : StrsOk l) (hl : l.length ≤ 140737488351232) (hr : r.length ≤ 140737488351232) : Ev (fun k => signalbenchref09_Check.f k l r) (chkV l r) := by
  unfold chkV
  by_cases c1 : 262144 < r.length
  · rw [if_pos c1]
    refine Ev.congr (fun k => ?_) (Ev.now _)
    unfold signalbenchref09_Check.f
    rw [if_pos (by omega)]
  · rw [if_neg c1]
    refine Ev.congr (f := fun k => (signalbenchref09_names.f k l).bind fun t216 => (if t216 = 0 then ((signalbenchref09_runs.f k r (mk l)).bind fun t217 => (if t217 = true then (some 0) else (some 2))) else (some t216))) (fun k => ?_) (Ev.bind (refnames_ev hs hl) ?_)
    · unfold signalbenchref09_Check.f
      rw [if_neg (by omega)]
      rfl
    · by_cases c2 : nmsV l = 0
      · rw [if_pos c2]
        refine Ev.congr (fun k => if_pos c2) (Ev.bind (refruns_ev (mk l) hr) ?_)
        by_cases c3 : rOk (mk l) 1099511627776 r = true
        · simp only [if_pos c3]
          exact Ev.now _
        · simp only [if_neg c3]
          exact Ev.now _
      · rw [if_neg c2]
        exact Ev.congr (fun k => if_neg c2) (Ev.now _)
theorem refGood_ev {l : List ByteArray} {r : List S48} (hs : StrsOk l) (hl : l.length ≤ 140737488351232) (hr : r.length ≤ 140737488351232) : Ev (fun k => signalbenchref09_Good.f k l r) (chkV l r == 0) :=
  Ev.bind (refCheck_ev hs hl hr) (Ev.now _)
theorem long_l0 {m : Int} : ∀ (post pre : List S48) (s : Int), 0 ≤ s → s + sm post ≤ 4611686018427387904 → RunsM m post → (pre ++ post).length ≤ 140737488351232 →
    Ev (fun k => capture_long.l0 k s (pre ++ post) ((pre ++ post).length : Int) (pre.length : Int)) (s + sm post)
  | [], pre, s, h0, h1, hw, hl => by
    refine Ev.step (f := fun _ => some s) (fun k => ?_) ?_
    · simp only [capture_long.l0]
      rw [if_neg (by simp)]
    · simp only [sm, Int.add_zero]
      exact Ev.now _
  | x :: post, pre, s, h0, h1, hw, hl => by
    have hx := hw.cons
    have hs := smM_nonneg hx.2
    simp only [sm] at h1
    have hlt := mid_lt pre post x
    have hn : pre.length ≤ 9223372036854775806 := by
      simp only [List.length_append, List.length_cons] at hl
      omega
    have ih := long_l0 post (pre ++ [x]) (s + x.f1) (by omega) (by omega) hx.2 (by simpa using hl)
    rw [← mid_snoc] at ih
    have e1 : s + sm (x :: post) = s + x.f1 + sm post := by
      simp only [sm]
      omega
    rw [e1]
    refine Ev.step (fun k => ?_) ih
    simp only [capture_long.l0]
    rw [rd_mid, if_pos hlt, if_pos (by omega), if_pos hlt, w64 (x := s + x.f1) (by omega) (by omega), succ_mid _ _ hn]
theorem long_ev {m : Int} {r : List S48} (h : RunsM m r) (hs : sm r ≤ 1099511627776) (hr : r.length ≤ 140737488351232) : Ev (fun k => capture_long.f k r) (sm r) := by
  have h := long_l0 r [] 0 (by omega) (by omega) h (by simpa using hr)
  rw [Int.zero_add] at h
  exact Ev.congr (fun k => rfl) h
theorem total_l0 {m : Int} : ∀ (post pre : List S48) (s : Int), 0 ≤ s → s + sm post ≤ 4611686018427387904 → RunsM m post → (pre ++ post).length ≤ 140737488351232 →
    Ev (fun k => signalbenchref09_total.l0 k (pre ++ post) s (pre.length : Int)) (s + sm post)
  | [], pre, s, h0, h1, hw, hl => by
    refine Ev.step (f := fun _ => some s) (fun k => ?_) ?_
    · simp only [signalbenchref09_total.l0]
      rw [if_neg (by simp)]
    · simp only [sm, Int.add_zero]
      exact Ev.now _
  | x :: post, pre, s, h0, h1, hw, hl => by
    have hx := hw.cons
    have hs := smM_nonneg hx.2
    simp only [sm] at h1
    have hlt := mid_lt pre post x
    have hn : pre.length ≤ 9223372036854775806 := by
      simp only [List.length_append, List.length_cons] at hl
      omega
    have ih := total_l0 post (pre ++ [x]) (s + x.f1) (by omega) (by omega) hx.2 (by simpa using hl)
    rw [← mid_snoc] at ih
    have e1 : s + sm (x :: post) = s + x.f1 + sm post := by
      simp only [sm]
      omega
    rw [e1]
    refine Ev.step (fun k => ?_) ih
    simp only [signalbenchref09_total.l0]
    rw [rd_mid, if_pos hlt, if_pos (by omega), w64 (x := s + x.f1) (by omega) (by omega), succ_mid _ _ hn]
theorem total_ev {m : Int} {r : List S48} (h : RunsM m r) (hs : sm r ≤ 1099511627776) (hr : r.length ≤ 140737488351232) : Ev (fun k => signalbenchref09_total.f k r) (sm r) := by
  have h := total_l0 r [] 0 (by omega) (by omega) h (by simpa using hr)
  rw [Int.zero_add] at h
  exact Ev.congr (fun k => rfl) h
def longC (l : List ByteArray) (r : List S48) : Int := if chkV l r = 0 then sm r else 0
theorem Long_ev {l : List ByteArray} {r : List S48} (hs : StrsOk l) (hl : l.length ≤ 140737488351232) (hr : r.length ≤ 140737488351232) : Ev (fun k => capture_Long.f k l r) (longC l r) := by
  unfold longC
  refine Ev.bind (Check_ev hs hl hr) ?_
  by_cases c : chkV l r = 0
  · have h := chk_0 c
    rw [if_pos c]
    exact Ev.congr (fun k => if_pos c) (Ev.bind (long_ev h.2.2.1 h.2.2.2 hr) (Ev.now _))
  · rw [if_neg c]
    exact Ev.congr (fun k => if_neg c) (Ev.now _)
theorem refLong_ev {l : List ByteArray} {r : List S48} (hs : StrsOk l) (hl : l.length ≤ 140737488351232) (hr : r.length ≤ 140737488351232) : Ev (fun k => signalbenchref09_Long.f k l r) (longC l r) := by
  unfold longC
  refine Ev.bind (refGood_ev hs hl hr) ?_
  by_cases c : chkV l r = 0
  · have h := chk_0 c
    rw [if_pos c]
    exact Ev.congr (fun k => if_pos (beq_iff_eq.2 c)) (Ev.bind (total_ev h.2.2.1 h.2.2.2 hr) (Ev.now _))
  · rw [if_neg c]
    exact Ev.congr (fun k => if_neg (fun h => c (beq_iff_eq.1 h))) (Ev.now _)
/-- A run put behind runs. -/
def putR (o : List S48) (v t : Int) : List S48 :=
  match o.getLast? with
  | some y => if y.f0 = v then o.dropLast ++ [(⟨y.f0, y.f1 + t⟩ : S48)] else o ++ [(⟨v, t⟩ : S48)]
  | none => [(⟨v, t⟩ : S48)]
theorem putR_nil (v t : Int) : putR [] v t = [⟨v, t⟩] := rfl
theorem putR_same (o : List S48) (y : S48) (t : Int) : putR (o ++ [y]) y.f0 t = o ++ [⟨y.f0, y.f1 + t⟩] := by
  simp [putR]
theorem putR_new (o : List S48) (y : S48) {v t : Int} (h : ¬ y.f0 = v) : putR (o ++ [y]) v t = o ++ [y] ++ [⟨v, t⟩] := by
  simp [putR, h]
theorem snoc_cases {α : Type} (o : List α) : o = [] ∨ ∃ q y, o = q ++ [y] := by
  rcases List.eq_nil_or_concat o with h | ⟨q, y, h⟩
  · exact .inl h
  · exact .inr ⟨q, y, by simpa using h⟩
theorem refput_eq {o : List S48} {v t : Int} (ho : o.length < 8796093022208) (h0 : 1 ≤ t) (hs : ∀ y ∈ o, 0 ≤ y.f1 ∧ y.f1 + t ≤ 9223372036854775807) : signalbenchref09_put.f o v t = some (putR o v t) := by
  rcases snoc_cases o with rfl | ⟨q, y, rfl⟩
  · unfold signalbenchref09_put.f
    rw [if_neg (by omega), if_neg (by simp), if_pos (by simp)]
    rfl
  · have hy := hs y (by simp)
    have hq : q.length ≤ 9223372036854775806 := by
      simp only [List.length_append, List.length_cons, List.length_nil] at ho
      omega
    have hlt : (q.length : Int) < ((q ++ [y]).length : Int) := mid_lt q [] y
    unfold signalbenchref09_put.f
    rw [last_at q y hq, rd_last, if_neg (by omega), if_pos (by omega), if_pos (by omega), if_pos hlt]
    by_cases c : y.f0 = v
    · rw [if_pos c, set_last, w64 (by omega) (by omega), ← c, putR_same]
    · rw [if_neg c, if_pos ho, putR_new q y c]
theorem refput_skip {o : List S48} {v t : Int} (h0 : t < 1) : signalbenchref09_put.f o v t = some o := by
  unfold signalbenchref09_put.f
  rw [if_pos h0]
theorem putR_sm (o : List S48) (v t : Int) : sm (putR o v t) = sm o + t := by
  rcases snoc_cases o with rfl | ⟨q, y, rfl⟩
  · simp [putR_nil, sm]
  · by_cases c : y.f0 = v
    · rw [← c, putR_same]
      simp only [sm_append, sm]
      omega
    · rw [putR_new q y c]
      simp only [sm_append, sm]
      omega
theorem putR_len (o : List S48) (v t : Int) : (putR o v t).length ≤ o.length + 1 := by
  rcases snoc_cases o with rfl | ⟨q, y, rfl⟩
  · simp [putR_nil]
  · by_cases c : y.f0 = v
    · rw [← c, putR_same]
      simp
    · rw [putR_new q y c]
      simp
theorem putR_ok {m : Int} {o : List S48} {v t : Int} (h : RunsM m o) (hv : 0 ≤ v ∧ v ≤ m) (ht : 1 ≤ t) : RunsM m (putR o v t) := by
  rcases snoc_cases o with rfl | ⟨q, y, rfl⟩
  · intro x hx
    rw [putR_nil, List.mem_singleton] at hx
    subst hx
    exact ⟨hv.1, hv.2, ht⟩
  · have hy := h y (by simp)
    by_cases c : y.f0 = v
    · rw [← c, putR_same]
      intro x hx
      rcases List.mem_append.1 hx with hx | hx
      · exact h x (by simp [hx])
      · rw [List.mem_singleton] at hx
        subst hx
        exact ⟨hy.1, hy.2.1, by show 1 ≤ y.f1 + t; omega⟩
    · rw [putR_new q y c]
      intro x hx
      rcases List.mem_append.1 hx with hx | hx
      · exact h x hx
      · rw [List.mem_singleton] at hx
        subst hx
        exact ⟨hv.1, hv.2, ht⟩
/-- Each run has at most the sum of all. -/
theorem le_sm {m : Int} : ∀ {l : List S48}, RunsM m l → ∀ y ∈ l, 0 ≤ y.f1 ∧ y.f1 ≤ sm l
  | [], h, y, hy => by simp at hy
  | x :: l, h, y, hy => by
    have hx := h.cons
    have h0 := smM_nonneg hx.2
    simp only [sm]
    rcases List.mem_cons.1 hy with rfl | hy
    · omega
    · have := le_sm hx.2 y hy
      omega
def cln : List S48 → List S48 → List S48
  | o, [] => o
  | o, x :: l => cln (putR o x.f0 x.f1) l
theorem cln_len : ∀ (l o : List S48), (cln o l).length ≤ o.length + l.length
  | [], o => by simp [cln]
  | x :: l, o => by
    have := cln_len l (putR o x.f0 x.f1)
    have := putR_len o x.f0 x.f1
    simp only [cln, List.length_cons]
    omega
def Tk (l : List S48) : Prop := ∀ y ∈ l, 1 ≤ y.f1
theorem RunsM.tk {m : Int} {l : List S48} (h : RunsM m l) : Tk l := fun y hy => (h y hy).2.2
theorem Tk.cons {x : S48} {l : List S48} (h : Tk (x :: l)) : 1 ≤ x.f1 ∧ Tk l := ⟨h x (by simp), fun y hy => h y (by simp [hy])⟩
theorem smT_nonneg : ∀ {l : List S48}, Tk l → 0 ≤ sm l
  | [], _ => Int.le_refl _
  | x :: l, h => by
    have h1 := h.cons
    have h2 := smT_nonneg h1.2
    simp only [sm]
    omega
theorem leT_sm : ∀ {l : List S48}, Tk l → ∀ y ∈ l, 0 ≤ y.f1 ∧ y.f1 ≤ sm l
  | [], h, y, hy => by simp at hy
  | x :: l, h, y, hy => by
    have hx := h.cons
    have h0 := smT_nonneg hx.2
    simp only [sm]
    rcases List.mem_cons.1 hy with rfl | hy
    · omega
    · have := leT_sm hx.2 y hy
      omega
theorem putR_tk {o : List S48} {v t : Int} (h : Tk o) (ht : 1 ≤ t) : Tk (putR o v t) := by
  rcases snoc_cases o with rfl | ⟨q, y, rfl⟩
  · intro x hx
    rw [putR_nil, List.mem_singleton] at hx
    subst hx
    exact ht
  · have hy := h y (by simp)
    by_cases c : y.f0 = v
    · rw [← c, putR_same]
      intro x hx
      rcases List.mem_append.1 hx with hx | hx
      · exact h x (by simp [hx])
      · rw [List.mem_singleton] at hx
        subst hx
        show 1 ≤ y.f1 + t
        omega
    · rw [putR_new q y c]
      intro x hx
      rcases List.mem_append.1 hx with hx | hx
      · exact h x hx
      · rw [List.mem_singleton] at hx
        subst hx
        exact ht
theorem lives12_ev : Ev (fun k => signalbenchlaw12_lives.f k) true := Ev.of (k := 60) (fun k => signalbenchlaw12_lives.mono k) (by decide +kernel)
def fewV12 (l : List ByteArray) (r : List S48) : Bool := decide (l.length ≤ 60 ∧ r.length ≤ 500)
theorem few12_eq (l : List ByteArray) (r : List S48) : signalbenchlaw12_few.f l r = some (fewV12 l r) := by
  unfold signalbenchlaw12_few.f fewV12
  by_cases c : l.length ≤ 60
  · rw [if_pos (by omega)]
    by_cases c1 : r.length ≤ 500
    · rw [decide_eq_true (by omega), decide_eq_true ⟨c, c1⟩]
    · rw [decide_eq_false (by omega), decide_eq_false (fun h => c1 h.2)]
  · rw [if_neg (by omega), decide_eq_false (fun h => c h.1)]
theorem equal12_l1 (l : List ByteArray) : ∀ (post pre : List S48), (pre ++ post).length ≤ 140737488351232 → Ev (fun k => signalbenchlaw12_equal.l1 k (pre.length : Int) l (pre ++ post) l (pre ++ post)) true
  | [], pre, hl => by
    refine Ev.step (f := fun _ => some true) (fun k => ?_) (Ev.now _)
    simp only [signalbenchlaw12_equal.l1]
    rw [if_neg (by simp)]
  | x :: post, pre, hl => by
    have hlt := mid_lt pre post x
    have hn : pre.length ≤ 9223372036854775806 := by
      simp only [List.length_append, List.length_cons] at hl
      omega
    have ih := equal12_l1 l post (pre ++ [x]) (by simpa using hl)
    rw [← mid_snoc] at ih
    refine Ev.step (fun k => ?_) ih
    simp only [signalbenchlaw12_equal.l1]
    rw [rd_mid, if_pos hlt, if_pos (by omega), if_pos hlt, if_neg (by simp), succ_mid _ _ hn]
theorem equal12_l0 (r : List S48) (hr : r.length ≤ 140737488351232) : ∀ (post pre : List ByteArray), (pre ++ post).length ≤ 140737488351232 → Ev (fun k => signalbenchlaw12_equal.l0 k (pre.length : Int) (pre ++ post) r (pre ++ post) r) true
  | [], pre, hl => by
    refine Ev.step (fun k => ?_) (equal12_l1 (pre ++ []) r [] (by simpa using hr))
    simp only [signalbenchlaw12_equal.l0]
    rw [if_neg (by simp)]
    rfl
  | x :: post, pre, hl => by
    have hlt := mids_lt pre post x
    have hn : pre.length ≤ 9223372036854775806 := by
      simp only [List.length_append, List.length_cons] at hl
      omega
    have ih := equal12_l0 r hr post (pre ++ [x]) (by simpa using hl)
    rw [← mid_snoc] at ih
    refine Ev.step (fun k => ?_) ih
    simp only [signalbenchlaw12_equal.l0]
    rw [if_pos hlt, if_pos (by omega), if_pos hlt, if_pos trivial, succ_mid _ _ hn]
theorem equal12_ev (l : List ByteArray) (r : List S48) (hl : l.length ≤ 140737488351232) (hr : r.length ≤ 140737488351232) : Ev (fun k => signalbenchlaw12_equal.f k l r l r) true := by
  refine Ev.congr (f := fun k => signalbenchlaw12_equal.j0 k ((r.length : Int) != (r.length : Int)) l r l r) (fun k => ?_) ?_
  · unfold signalbenchlaw12_equal.f
    rw [if_pos rfl]
  · rw [bne_self_eq_false]
    refine Ev.step (fun k => ?_) (equal12_l0 r hr l [] (by simpa using hl))
    simp only [signalbenchlaw12_equal.j0]
    rw [if_neg (by decide)]
    rfl
theorem rjoin_eq {o : List S48} {v t : Int} (ho : o.length < 8796093022208) (h0 : 0 ≤ t) (hs : ∀ y ∈ o, 0 ≤ y.f1 ∧ y.f1 + t ≤ 9223372036854775807) : remap_join.f o v t = some (putR o v t) := by
  rcases snoc_cases o with rfl | ⟨q, y, rfl⟩
  · unfold remap_join.f
    rw [if_neg (by simp), if_pos (by simp)]
    rfl
  · have hy := hs y (by simp)
    have hq : q.length ≤ 9223372036854775806 := by
      simp only [List.length_append, List.length_cons, List.length_nil] at ho
      omega
    have hlt : (q.length : Int) < ((q ++ [y]).length : Int) := mid_lt q [] y
    unfold remap_join.f
    rw [last_at q y hq, rd_last, if_pos (by omega), if_pos (by omega), if_pos hlt]
    by_cases c : y.f0 = v
    · rw [if_pos c, set_last, w64 (by omega) (by omega), ← c, putR_same]
    · rw [if_neg c, if_pos ho, putR_new q y c]
theorem clone_str {l : List ByteArray} (h : l.length ≤ 140737488351) : slices_Clone_string.f l = some l := by
  unfold slices_Clone_string.f
  rw [if_pos (by omega)]
theorem nilM {m : Int} : RunsM m ([] : List S48) := fun x hx => by simp at hx
/-- The reference's Clean of runs of any levels. -/
theorem refCleanT_l0 : ∀ (post pre o : List S48), Tk o → Tk post → sm o + sm post ≤ 1099511627776 → (pre ++ post).length ≤ 262144 → o.length + post.length ≤ 262144 →
    Ev (fun k => signalbenchref09_Clean.l0 k (pre ++ post) o (pre.length : Int)) (cln o post)
  | [], pre, o, h0, h1, hs, hl, ho => by
    refine Ev.step (f := fun _ => some o) (fun k => ?_) (Ev.now _)
    simp only [signalbenchref09_Clean.l0]
    rw [if_neg (by simp)]
  | x :: post, pre, o, h0, h1, hs, hl, ho => by
    have hx := h1.cons
    have h2 := smT_nonneg hx.2
    have h3 := smT_nonneg h0
    simp only [sm] at hs
    simp only [List.length_cons] at ho
    have hlt := mid_lt pre post x
    have hn : pre.length ≤ 9223372036854775806 := by
      simp only [List.length_append, List.length_cons] at hl
      omega
    have hj : signalbenchref09_put.f o x.f0 x.f1 = some (putR o x.f0 x.f1) := refput_eq (by omega) hx.1 (fun y hy => by have := leT_sm h0 y hy; omega)
    have ih := refCleanT_l0 post (pre ++ [x]) (putR o x.f0 x.f1) (putR_tk h0 hx.1) hx.2 (by rw [putR_sm]; omega) (by simpa using hl) (by have := putR_len o x.f0 x.f1; omega)
    rw [← mid_snoc] at ih
    refine Ev.step (fun k => ?_) ih
    simp only [signalbenchref09_Clean.l0]
    rw [rd_mid, if_pos hlt, if_pos (by omega), hj, Option.bind_some, succ_mid _ _ hn]
theorem refCleanT_ev {r : List S48} (h : Tk r) (hs : sm r ≤ 1099511627776) (hr : r.length ≤ 262144) : Ev (fun k => signalbenchref09_Clean.f k r) (cln [] r) :=
  Ev.congr (fun k => rfl) (refCleanT_l0 r [] [] (fun x hx => by simp at hx) h (by simp only [sm]; omega) (by simpa using hr) (by simpa using hr))
def delR (b : Int) : List S48 → List S48
  | [] => []
  | x :: l => (⟨x.f0, x.f1 + b⟩ : S48) :: l
def delV (l : List ByteArray) (r : List S48) (b : Int) : List ByteArray × List S48 × Int :=
  if chkV l r = 0 then (if b < 0 ∨ 1099511627776 - sm r < b ∨ (r = [] ∧ b ≠ 0) then ([], [], 2) else (l, cln [] (delR b r), 0)) else ([], [], chkV l r)
theorem Delay_l0 {m : Int} (b : Int) (l : List ByteArray) : ∀ (post pre o : List S48), pre ≠ [] → RunsM m o → RunsM m post → sm o + sm post ≤ 1099511627776 → (pre ++ post).length ≤ 262144 → o.length + post.length ≤ 262144 →
    Ev (fun k => remap_Delay.l0 k b (pre ++ post) ((pre ++ post).length : Int) (pre.length : Int) l o) (l, cln o post, 0)
  | [], pre, o, hp, h0, h1, hs, hl, ho => by
    refine Ev.step (f := fun _ => some (l, o, 0)) (fun k => ?_) (Ev.now _)
    simp only [remap_Delay.l0]
    rw [if_neg (by simp)]
  | x :: post, pre, o, hp, h0, h1, hs, hl, ho => by
    have hx := h1.cons
    have h2 := smM_nonneg hx.2
    have h3 := smM_nonneg h0
    simp only [sm] at hs
    simp only [List.length_cons] at ho
    have hlt := mid_lt pre post x
    have hn : pre.length ≤ 9223372036854775806 := by
      simp only [List.length_append, List.length_cons] at hl
      omega
    have hp0 : ¬ ((pre.length : Int) = 0) := by
      intro e
      exact hp (List.eq_nil_of_length_eq_zero (by omega))
    have hj : remap_join.f o x.f0 x.f1 = some (putR o x.f0 x.f1) := rjoin_eq (by omega) (by omega) (fun y hy => by have := le_sm h0 y hy; omega)
    have ih := Delay_l0 b l post (pre ++ [x]) (putR o x.f0 x.f1) (by simp) (putR_ok h0 ⟨hx.1.1, hx.1.2.1⟩ hx.1.2.2) hx.2 (by rw [putR_sm]; omega) (by simpa using hl) (by have := putR_len o x.f0 x.f1; omega)
    rw [← mid_snoc] at ih
    refine Ev.step (fun k => ?_) ih
    simp only [remap_Delay.l0]
    rw [rd_mid, if_pos hlt, if_pos (Int.natCast_nonneg _), if_pos hlt, if_neg hp0, hj, Option.bind_some, succ_mid _ _ hn]
theorem Delay_ev {l : List ByteArray} {r : List S48} {b : Int} (hs : StrsOk l) (hl : l.length ≤ 100000) (hr : r.length ≤ 140737488351232) (hb : -9223372036854775808 ≤ b ∧ b ≤ 9223372036854775807) : Ev (fun k => remap_Delay.f k l r b) (delV l r b) := by
  unfold delV
  refine Ev.bind (Check_ev hs (by omega) hr) ?_
  by_cases c : chkV l r = 0
  · rw [if_pos c]
    refine Ev.congr (fun k => if_pos c) ?_
    have h := chk_0 c
    have h0 := smM_nonneg h.2.2.1
    have eL : longC l r = sm r := if_pos c
    have hbad : Ev (fun k => remap_Delay.j0 k b true l r) ([], [], 2) := Ev.step (f := fun _ => some ([], [], 2)) (fun k => by simp only [remap_Delay.j0]; rfl) (Ev.now _)
    have hgood : (r = [] → b = 0) → 0 ≤ b → b ≤ 1099511627776 - sm r → Ev (fun k => remap_Delay.j0 k b false l r) (l, cln [] (delR b r), 0) := by
      intro hre hb0 hb1
      refine Ev.step (f := fun k => remap_Delay.l0 k b r (r.length : Int) 0 l []) (fun k => ?_) ?_
      · simp only [remap_Delay.j0]
        rw [if_neg (by decide), clone_str (by omega)]
        rfl
      · cases r with
        | nil =>
          refine Ev.step (f := fun _ => some (l, [], 0)) (fun k => ?_) (Ev.now _)
          simp only [remap_Delay.l0]
          rw [if_neg (by simp)]
        | cons x r =>
          have hx := h.2.2.1.cons
          have h2 := smM_nonneg hx.2
          have hsm := h.2.2.2
          have hlen := h.1
          simp only [sm] at hsm hb1
          have hj : remap_join.f [] x.f0 (x.f1 + b) = some (putR [] x.f0 (x.f1 + b)) := rjoin_eq (by simp) (by omega) (fun y hy => by simp at hy)
          have ih := Delay_l0 (m := mk l) b l r [x] (putR [] x.f0 (x.f1 + b)) (by simp) (putR_ok nilM ⟨hx.1.1, hx.1.2.1⟩ (by omega)) hx.2 (by rw [putR_sm]; simp only [sm]; omega) (by simpa using hlen) (by rw [putR_nil]; simp only [List.length_cons, List.length_nil] at hlen ⊢; omega)
          refine Ev.step (fun k => ?_) ih
          have r0 : rd_T48 (x :: r) 0 = x := by simp [rd_T48, List.getD]
          simp only [remap_Delay.l0]
          rw [r0, if_pos (by simp only [List.length_cons]; omega), if_pos (by omega), if_pos (by simp only [List.length_cons]; omega), if_pos trivial, w64 (x := x.f1 + b) (by omega) (by omega), hj, Option.bind_some, wrap01]
          rfl
    by_cases c1 : b < 0
    · rw [if_pos (.inl c1)]
      exact Ev.congr (fun k => if_pos c1) hbad
    · refine Ev.congr (fun k => if_neg c1) (Ev.bind (Long_ev hs (by omega) hr) ?_)
      rw [eL, w64 (x := 1099511627776 - sm r) (by omega) (by omega)]
      by_cases c2 : b > 1099511627776 - sm r
      · rw [if_pos (.inr (.inl c2))]
        exact Ev.congr (fun k => if_pos c2) hbad
      · refine Ev.congr (fun k => if_neg c2) ?_
        by_cases c3 : r = []
        · refine Ev.congr (fun k => if_pos (by rw [c3]; rfl)) ?_
          by_cases c4 : b = 0
          · rw [show (b != 0) = false by rw [c4]; rfl, if_neg (by omega)]
            exact hgood (fun _ => c4) (by omega) (by omega)
          · rw [show (b != 0) = true from bne_iff_ne.2 c4, if_pos (.inr (.inr ⟨c3, c4⟩))]
            exact hbad
        · refine Ev.congr (fun k => if_neg (fun e => c3 (List.eq_nil_of_length_eq_zero (by omega)))) ?_
          rw [if_neg (fun h9 => h9.elim c1 (fun h8 => h8.elim c2 (fun k => c3 k.1)))]
          exact hgood (fun e => absurd e c3) (by omega) (by omega)
  · rw [if_neg c]
    exact Ev.congr (fun k => if_neg c) (Ev.now _)
theorem delR_sm (b : Int) {r : List S48} (h : r ≠ []) : sm (delR b r) = sm r + b := by
  cases r with
  | nil => exact absurd rfl h
  | cons x r =>
    simp only [delR, sm]
    omega
theorem delR_ok {m b : Int} {r : List S48} (h : RunsM m r) (hb : 0 ≤ b) : RunsM m (delR b r) := by
  cases r with
  | nil => exact h
  | cons x r =>
    have hx := h.cons
    intro y hy
    rcases List.mem_cons.1 hy with rfl | hy
    · exact ⟨hx.1.1, hx.1.2.1, by show 1 ≤ x.f1 + b; omega⟩
    · exact hx.2 y hy
theorem delR_len (b : Int) (r : List S48) : (delR b r).length = r.length := by
  cases r <;> rfl
theorem delV_len (l : List ByteArray) (r : List S48) (m : Int) : (delV l r m).1.length ≤ l.length ∧ (delV l r m).2.1.length ≤ r.length := by
  unfold delV
  by_cases c : chkV l r = 0
  · rw [if_pos c]
    by_cases g : m < 0 ∨ 1099511627776 - sm r < m ∨ (r = [] ∧ m ≠ 0)
    · rw [if_pos g]
      simp
    · rw [if_neg g]
      have hlen := cln_len (delR m r) []
      rw [delR_len] at hlen
      simp only [List.length_nil] at hlen
      exact ⟨Nat.le_refl _, by show (cln [] (delR m r)).length ≤ _; omega⟩
  · rw [if_neg c]
    simp
def vldR (n d : Int) : Bool := decide (1 ≤ d ∧ d ≤ 1073741824 ∧ -1073741824 ≤ n ∧ n ≤ 1073741824 ∧ Nat.gcd n.natAbs d.natAbs = 1)
theorem ratioValid_ev {n d : Int} (hn : (Lit.int .i64 n).wf = true) (hd : (Lit.int .i64 d).wf = true) : Ev (fun k => ratio_Valid.f k n d) (vldR n d) := by
  have hbad : Ev (fun k => ratio_Valid.j0 k true n d) false := Ev.step (f := fun _ => some false) (fun k => by simp only [ratio_Valid.j0]; rfl) (Ev.now _)
  have hno : ¬ (1 ≤ d ∧ d ≤ 1073741824 ∧ -1073741824 ≤ n ∧ n ≤ 1073741824 ∧ Nat.gcd n.natAbs d.natAbs = 1) → vldR n d = false := fun h => decide_eq_false h
  by_cases c1 : d < 1
  · rw [hno (fun h => by omega)]
    exact Ev.congr (fun k => if_pos c1) hbad
  · refine Ev.congr (fun k => if_neg c1) ?_
    by_cases c2 : d > 1073741824
    · rw [hno (fun h => by omega)]
      exact Ev.congr (fun k => if_pos c2) hbad
    · refine Ev.congr (fun k => if_neg c2) ?_
      by_cases c3 : n < -1073741824
      · rw [hno (fun h => by omega)]
        exact Ev.congr (fun k => if_pos c3) hbad
      · refine Ev.congr (fun k => if_neg c3) ?_
        by_cases c4 : n > 1073741824
        · rw [decide_eq_true c4, hno (fun h => by omega)]
          exact hbad
        · rw [decide_eq_false c4]
          have e1 : ratio_size.f n = some ((n.natAbs : Nat) : Int) := size_abs hn
          have e2 : ratio_size.f d = some ((d.natAbs : Nat) : Int) := size_abs hd
          refine Ev.step (f := fun k => (ratio_common.f k ((n.natAbs : Nat) : Int) ((d.natAbs : Nat) : Int)).bind fun t => some (t == 1)) (fun k => ?_) (Ev.bind (ratio_common_ev d.natAbs n.natAbs) ?_)
          · simp only [ratio_Valid.j0]
            rw [if_neg (by decide), e1, Option.bind_some, e2, Option.bind_some]
          · by_cases g : Nat.gcd n.natAbs d.natAbs = 1
            · have hy : vldR n d = true := decide_eq_true ⟨by omega, by omega, by omega, by omega, g⟩
              rw [hy, g]
              exact Ev.now _
            · rw [hno (fun h => g h.2.2.2.2), show ((((Nat.gcd n.natAbs d.natAbs : Nat) : Int)) == 1) = false from beq_eq_false_iff_ne.2 (fun h => g (by omega))]
              exact Ev.now _
theorem vldR_iff {n d : Int} (h : vldR n d = true) : 1 ≤ d ∧ d ≤ 1073741824 ∧ -1073741824 ≤ n ∧ n ≤ 1073741824 := by
  have := of_decide_eq_true h
  exact ⟨this.1, this.2.1, this.2.2.1, this.2.2.2.1⟩
theorem mul_bound {n x : Int} (hn : 0 ≤ n ∧ n ≤ 1073741824) (hx : 0 ≤ x ∧ x ≤ 4294967296) : 0 ≤ n * x ∧ n * x ≤ 4611686018427387904 := by
  refine ⟨Int.mul_nonneg hn.1 hx.1, ?_⟩
  have h1 : n * x ≤ 1073741824 * x := Int.mul_le_mul_of_nonneg_right hn.2 hx.1
  omega
theorem floor_eq {a d : Int} (ha : 0 ≤ a ∧ a ≤ 4611686018427387904) (hd : 1 ≤ d) : ratio_floor.f a d = some (a / d) := by
  have h1 : Int.tdiv a d = a / d := Int.tdiv_eq_ediv_of_nonneg ha.1
  have h2 : 0 ≤ Int.tmod a d := Int.tmod_nonneg d ha.1
  have h3 : 0 ≤ a / d := Int.ediv_nonneg ha.1 (by omega)
  have h4 : a / d ≤ a := Int.ediv_le_self d ha.1
  unfold ratio_floor.f
  rw [if_neg (by omega), if_neg (by omega), h1, w64 (by omega) (by omega)]
/-- A ratio of at least nothing times a tick. -/
theorem ratioScale_ev {n d x : Int} (hn : (Lit.int .i64 n).wf = true) (hd : (Lit.int .i64 d).wf = true) (v : vldR n d = true) (h1 : 1 ≤ n) (hx : 0 ≤ x) : Ev (fun k => ratio_Scale.f k n d x) (if x ≤ 4294967296 then ((n * x) / d, 0) else (0, 3)) := by
  have hv := vldR_iff v
  refine Ev.bind (ratioValid_ev hn hd) (Ev.congr (fun k => if_pos v) (Ev.congr (fun k => if_neg (by omega)) ?_))
  by_cases c : x ≤ 4294967296
  · rw [if_pos c]
    have hb := mul_bound (n := n) (x := x) ⟨by omega, hv.2.2.2⟩ ⟨hx, c⟩
    refine Ev.congr (fun k => (if_neg (by omega)).trans ?_) (Ev.now _)
    rw [w64 (x := n * x) (by omega) (by omega), floor_eq hb hv.1]
    rfl
  · rw [if_neg c]
    exact Ev.congr (fun k => if_pos (by omega)) (Ev.now _)
def sclR (n d : Int) : Int → List S48 → List S48
  | _, [] => []
  | a, x :: l => (⟨x.f0, n * (a + x.f1) / d - n * a / d⟩ : S48) :: sclR n d (a + x.f1) l
def clnZ : List S48 → List S48 → List S48
  | o, [] => o
  | o, x :: l => if 0 < x.f1 then clnZ (putR o x.f0 x.f1) l else clnZ o l
def sclV (l : List ByteArray) (r : List S48) (n d : Int) : List ByteArray × List S48 × Int :=
  if chkV l r = 0 then (if vldR n d = true ∧ 1 ≤ n then (if sm r ≤ 4294967296 ∧ n * sm r / d ≤ 1099511627776 then (l, clnZ [] (sclR n d 0 r), 0) else ([], [], 3)) else ([], [], 1)) else ([], [], chkV l r)
theorem scl_mono {n d a b : Int} (hn : 0 ≤ n) (hd : 1 ≤ d) (h : a ≤ b) : n * a / d ≤ n * b / d := Int.ediv_le_ediv (by omega) (Int.mul_le_mul_of_nonneg_left h hn)
theorem sclR_sm {n d : Int} : ∀ (r : List S48) (a : Int), sm (sclR n d a r) = n * (a + sm r) / d - n * a / d
  | [], a => by
    simp only [sclR, sm, Int.add_zero]
    omega
  | x :: r, a => by
    have := sclR_sm (n := n) (d := d) r (a + x.f1)
    simp only [sclR, sm]
    rw [this, show a + x.f1 + sm r = a + (x.f1 + sm r) by omega]
    omega
theorem Scale_l0 {n d : Int} (hn : (Lit.int .i64 n).wf = true) (hd : (Lit.int .i64 d).wf = true) (v : vldR n d = true) (h1 : 1 ≤ n) (l : List ByteArray) : ∀ (post pre o : List S48) (a : Int), Tk o → Tk post → 0 ≤ a → a + sm post ≤ 4294967296 → sm o = n * a / d → n * (a + sm post) / d ≤ 1099511627776 → (pre ++ post).length ≤ 262144 → o.length + post.length ≤ 262144 →
    Ev (fun k => remap_Scale.l0 k a (n * a / d) (pre ++ post) ((pre ++ post).length : Int) (pre.length : Int) n d l o) (l, clnZ o (sclR n d a post), 0)
  | [], pre, o, a, h0, ht, ha, hb, hso, hM, hl, ho => by
    refine Ev.step (f := fun _ => some (l, o, 0)) (fun k => ?_) (Ev.now _)
    simp only [remap_Scale.l0]
    rw [if_neg (by simp)]
  | x :: post, pre, o, a, h0, ht, ha, hb, hso, hM, hl, ho => by
    have hv := vldR_iff v
    have hx := ht.cons
    have h2 := smT_nonneg hx.2
    have h3 := smT_nonneg h0
    simp only [sm] at hb hM
    simp only [List.length_cons] at ho
    have hlt := mid_lt pre post x
    have hpn : pre.length ≤ 9223372036854775806 := by
      simp only [List.length_append, List.length_cons] at hl
      omega
    have ex := succ_mid pre x hpn
    have ea : wrap64 (a + x.f1) = a + x.f1 := w64 (by omega) (by omega)
    have hS := ratioScale_ev hn hd v h1 (show 0 ≤ a + x.f1 by omega)
    rw [if_pos (by omega)] at hS
    have m1 : n * a / d ≤ n * (a + x.f1) / d := scl_mono (by omega) hv.1 (by omega)
    have m2 : n * (a + x.f1) / d ≤ n * (a + (x.f1 + sm post)) / d := scl_mono (by omega) hv.1 (by omega)
    have m0 : 0 ≤ n * a / d := by omega
    have ew : wrap64 (n * (a + x.f1) / d - n * a / d) = n * (a + x.f1) / d - n * a / d := w64 (by omega) (by omega)
    have hst : ∀ k, remap_Scale.l0 (k + 1) a (n * a / d) (pre ++ x :: post) ((pre ++ x :: post).length : Int) (pre.length : Int) n d l o = (ratio_Scale.f k n d (a + x.f1)).bind fun bt580 => (if bt580.1 > n * a / d then ((remap_join.f o x.f0 (wrap64 (bt580.1 - n * a / d))).bind fun t582 => (remap_Scale.l0 k (a + x.f1) bt580.1 (pre ++ x :: post) ((pre ++ x :: post).length : Int) ((pre ++ [x]).length : Int) n d l t582)) else (remap_Scale.l0 k (a + x.f1) bt580.1 (pre ++ x :: post) ((pre ++ x :: post).length : Int) ((pre ++ [x]).length : Int) n d l o)) := by
      intro k
      simp only [remap_Scale.l0]
      rw [rd_mid, if_pos hlt, if_pos (Int.natCast_nonneg _), if_pos hlt, ea, ex]
    refine Ev.step hst (Ev.bind hS ?_)
    unfold sclR clnZ
    by_cases c : n * (a + x.f1) / d > n * a / d
    · have hj : remap_join.f o x.f0 (n * (a + x.f1) / d - n * a / d) = some (putR o x.f0 (n * (a + x.f1) / d - n * a / d)) := rjoin_eq (by omega) (by omega) (fun y hy => by have := leT_sm h0 y hy; omega)
      have ih := Scale_l0 hn hd v h1 l post (pre ++ [x]) (putR o x.f0 (n * (a + x.f1) / d - n * a / d)) (a + x.f1) (putR_tk h0 (by omega)) hx.2 (by omega) (by omega) (by rw [putR_sm]; omega) (by rw [show a + x.f1 + sm post = a + (x.f1 + sm post) by omega]; exact hM) (by simpa using hl) (by have := putR_len o x.f0 (n * (a + x.f1) / d - n * a / d); omega)
      rw [← mid_snoc] at ih
      rw [if_pos (show 0 < (⟨x.f0, n * (a + x.f1) / d - n * a / d⟩ : S48).f1 by show 0 < n * (a + x.f1) / d - n * a / d; omega)]
      refine Ev.congr (fun k => (if_pos c).trans ?_) ih
      rw [ew, hj, Option.bind_some]
    · have e0 : n * (a + x.f1) / d = n * a / d := by omega
      have ih := Scale_l0 hn hd v h1 l post (pre ++ [x]) o (a + x.f1) h0 hx.2 (by omega) (by omega) (by omega) (by rw [show a + x.f1 + sm post = a + (x.f1 + sm post) by omega]; exact hM) (by simpa using hl) (by omega)
      rw [← mid_snoc] at ih
      rw [if_neg (show ¬ 0 < (⟨x.f0, n * (a + x.f1) / d - n * a / d⟩ : S48).f1 by show ¬ 0 < n * (a + x.f1) / d - n * a / d; omega)]
      exact Ev.congr (fun k => if_neg c) ih
theorem Scale_ev {l : List ByteArray} {r : List S48} {n d : Int} (hs : StrsOk l) (hl : l.length ≤ 100000) (hr : r.length ≤ 140737488351232) (hn : (Lit.int .i64 n).wf = true) (hd : (Lit.int .i64 d).wf = true) : Ev (fun k => remap_Scale.f k l r n d) (sclV l r n d) := by
  unfold sclV
  refine Ev.bind (Check_ev hs (by omega) hr) ?_
  by_cases c : chkV l r = 0
  · rw [if_pos c]
    refine Ev.congr (fun k => if_pos c) (Ev.bind (ratioValid_ev hn hd) ?_)
    have h := chk_0 c
    have h0 := smM_nonneg h.2.2.1
    have hbad : Ev (fun k => remap_Scale.j0 k true l r n d) ([], [], 1) := Ev.step (f := fun _ => some ([], [], 1)) (fun k => by simp only [remap_Scale.j0]; rfl) (Ev.now _)
    by_cases v : vldR n d = true
    · refine Ev.congr (fun k => if_pos v) ?_
      by_cases c1 : n < 1
      · rw [decide_eq_true c1, if_neg (fun h => by omega)]
        exact hbad
      · rw [decide_eq_false c1, if_pos ⟨v, by omega⟩]
        have hv := vldR_iff v
        have hS := ratioScale_ev hn hd v (by omega) h0
        have hL := Long_ev hs (by omega) hr
        rw [show longC l r = sm r from if_pos c] at hL
        have hbad3 : Ev (fun k => remap_Scale.j1 k true l r n d) ([], [], 3) := Ev.step (f := fun _ => some ([], [], 3)) (fun k => by simp only [remap_Scale.j1]; rfl) (Ev.now _)
        refine Ev.step (f := fun k => (capture_Long.f k l r).bind fun t571 => ((ratio_Scale.f k n d t571).bind fun bt572 => (if bt572.2 = 0 then (remap_Scale.j1 k (decide (bt572.1 > 1099511627776)) l r n d) else (remap_Scale.j1 k true l r n d)))) (fun k => ?_) (Ev.bind hL (Ev.bind hS ?_))
        · simp only [remap_Scale.j0]
          rw [if_neg (by decide)]
        · by_cases c2 : sm r ≤ 4294967296
          · rw [if_pos c2]
            refine Ev.congr (fun k => if_pos rfl) ?_
            by_cases c3 : n * sm r / d > 1099511627776
            · rw [if_neg (fun h => by omega)]
              show Ev (fun k => remap_Scale.j1 k (decide (n * sm r / d > 1099511627776)) l r n d) _
              rw [decide_eq_true c3]
              exact hbad3
            · rw [if_pos ⟨c2, by omega⟩]
              show Ev (fun k => remap_Scale.j1 k (decide (n * sm r / d > 1099511627776)) l r n d) _
              rw [decide_eq_false c3]
              have e0 : n * 0 / d = 0 := by
                rw [Int.mul_zero]
                exact Int.zero_ediv d
              have hg := Scale_l0 hn hd v (by omega) l r [] [] 0 (fun y hy => by simp at hy) h.2.2.1.tk (by omega) (by omega) (by rw [e0]; rfl) (by rw [Int.zero_add]; omega) (by simpa using h.1) (by simpa using h.1)
              rw [e0] at hg
              refine Ev.step (fun k => ?_) hg
              simp only [remap_Scale.j1]
              rw [if_neg (by decide), clone_str (by omega), Option.bind_some]
              rfl
          · rw [if_neg c2, if_neg (fun h => c2 h.1)]
            exact Ev.congr (fun k => if_neg (by decide)) hbad3
    · rw [if_neg (fun h => v h.1)]
      exact Ev.congr (fun k => if_neg v) hbad
  · rw [if_neg c]
    exact Ev.congr (fun k => if_neg c) (Ev.now _)
theorem smZ_nonneg : ∀ {l : List S48}, (∀ x ∈ l, 0 ≤ x.f1) → 0 ≤ sm l
  | [], _ => Int.le_refl _
  | x :: l, h => by
    have h1 := h x (by simp)
    have h2 := smZ_nonneg (l := l) (fun y hy => h y (by simp [hy]))
    simp only [sm]
    omega
/-- The reference's Clean of runs that may have no ticks. -/
theorem refCleanZ_l0 : ∀ (post pre o : List S48), Tk o → (∀ x ∈ post, 0 ≤ x.f1) → sm o + sm post ≤ 1099511627776 → (pre ++ post).length ≤ 262144 → o.length + post.length ≤ 262144 →
    Ev (fun k => signalbenchref09_Clean.l0 k (pre ++ post) o (pre.length : Int)) (clnZ o post)
  | [], pre, o, h0, h1, hs, hl, ho => by
    refine Ev.step (f := fun _ => some o) (fun k => ?_) (Ev.now _)
    simp only [signalbenchref09_Clean.l0]
    rw [if_neg (by simp)]
  | x :: post, pre, o, h0, h1, hs, hl, ho => by
    have hx0 := h1 x (by simp)
    have hx : ∀ y ∈ post, 0 ≤ y.f1 := fun y hy => h1 y (by simp [hy])
    have h2 := smZ_nonneg hx
    have h3 := smT_nonneg h0
    simp only [sm] at hs
    simp only [List.length_cons] at ho
    have hlt := mid_lt pre post x
    have hn : pre.length ≤ 9223372036854775806 := by
      simp only [List.length_append, List.length_cons] at hl
      omega
    unfold clnZ
    by_cases c : 0 < x.f1
    · have hj : signalbenchref09_put.f o x.f0 x.f1 = some (putR o x.f0 x.f1) := refput_eq (by omega) (by omega) (fun y hy => by have := leT_sm h0 y hy; omega)
      have ih := refCleanZ_l0 post (pre ++ [x]) (putR o x.f0 x.f1) (putR_tk h0 (by omega)) hx (by rw [putR_sm]; omega) (by simpa using hl) (by have := putR_len o x.f0 x.f1; omega)
      rw [← mid_snoc] at ih
      rw [if_pos c]
      refine Ev.step (fun k => ?_) ih
      simp only [signalbenchref09_Clean.l0]
      rw [rd_mid, if_pos hlt, if_pos (by omega), hj, Option.bind_some, succ_mid _ _ hn]
    · have hj : signalbenchref09_put.f o x.f0 x.f1 = some o := refput_skip (by omega)
      have ih := refCleanZ_l0 post (pre ++ [x]) o h0 hx (by omega) (by simpa using hl) (by omega)
      rw [← mid_snoc] at ih
      rw [if_neg c]
      refine Ev.step (fun k => ?_) ih
      simp only [signalbenchref09_Clean.l0]
      rw [rd_mid, if_pos hlt, if_pos (by omega), hj, Option.bind_some, succ_mid _ _ hn]
theorem refCleanZ_ev {r : List S48} (h : ∀ x ∈ r, 0 ≤ x.f1) (hs : sm r ≤ 1099511627776) (hr : r.length ≤ 262144) : Ev (fun k => signalbenchref09_Clean.f k r) (clnZ [] r) :=
  Ev.congr (fun k => rfl) (refCleanZ_l0 r [] [] (fun x hx => by simp at hx) h (by simp only [sm]; omega) (by simpa using hr) (by simpa using hr))
theorem ref01Valid_ev {n d : Int} (hn : (Lit.int .i64 n).wf = true) (hd : (Lit.int .i64 d).wf = true) : Ev (fun k => signalbenchref01_Valid.f k n d) (vldR n d) := by
  have hbad : Ev (fun k => signalbenchref01_Valid.j0 k true n d) false := Ev.step (f := fun _ => some false) (fun k => by simp only [signalbenchref01_Valid.j0]; rfl) (Ev.now _)
  have hno : ¬ (1 ≤ d ∧ d ≤ 1073741824 ∧ -1073741824 ≤ n ∧ n ≤ 1073741824 ∧ Nat.gcd n.natAbs d.natAbs = 1) → vldR n d = false := fun h => decide_eq_false h
  by_cases c1 : d < 1
  · rw [hno (fun h => by omega)]
    exact Ev.congr (fun k => if_pos c1) hbad
  · refine Ev.congr (fun k => if_neg c1) ?_
    by_cases c2 : d > 1073741824
    · rw [hno (fun h => by omega)]
      exact Ev.congr (fun k => if_pos c2) hbad
    · refine Ev.congr (fun k => if_neg c2) ?_
      by_cases c3 : n < -1073741824
      · rw [hno (fun h => by omega)]
        exact Ev.congr (fun k => if_pos c3) hbad
      · refine Ev.congr (fun k => if_neg c3) ?_
        by_cases c4 : n > 1073741824
        · rw [decide_eq_true c4, hno (fun h => by omega)]
          exact hbad
        · rw [decide_eq_false c4]
          have e1 : signalbenchref01_size.f n = some ((n.natAbs : Nat) : Int) := size_abs hn
          have e2 : signalbenchref01_size.f d = some ((d.natAbs : Nat) : Int) := size_abs hd
          refine Ev.step (f := fun k => (signalbenchref01_gcd.f k ((n.natAbs : Nat) : Int) ((d.natAbs : Nat) : Int)).bind fun t => some (t == 1)) (fun k => ?_) (Ev.bind (ref_gcd_ev d.natAbs n.natAbs) ?_)
          · simp only [signalbenchref01_Valid.j0]
            rw [if_neg (by decide), e1, Option.bind_some, e2, Option.bind_some]
          · by_cases g : Nat.gcd n.natAbs d.natAbs = 1
            · have hy : vldR n d = true := decide_eq_true ⟨by omega, by omega, by omega, by omega, g⟩
              rw [hy, g]
              exact Ev.now _
            · rw [hno (fun h => g h.2.2.2.2), show ((((Nat.gcd n.natAbs d.natAbs : Nat) : Int)) == 1) = false from beq_eq_false_iff_ne.2 (fun h => g (by omega))]
              exact Ev.now _
theorem ref01floor_eq {a d : Int} (ha : 0 ≤ a ∧ a ≤ 4611686018427387904) (hd : 1 ≤ d) : signalbenchref01_floor.f a d = some (a / d) := by
  have h1 : Int.tdiv a d = a / d := Int.tdiv_eq_ediv_of_nonneg ha.1
  have h2 : 0 ≤ Int.tmod a d := Int.tmod_nonneg d ha.1
  have h3 : 0 ≤ a / d := Int.ediv_nonneg ha.1 (by omega)
  have h4 : a / d ≤ a := Int.ediv_le_self d ha.1
  unfold signalbenchref01_floor.f
  rw [if_neg (by omega), if_neg (by omega), h1, w64 (by omega) (by omega)]
theorem ref01Scale_ev {n d x : Int} (hn : (Lit.int .i64 n).wf = true) (hd : (Lit.int .i64 d).wf = true) (v : vldR n d = true) (h1 : 1 ≤ n) (hx : 0 ≤ x) : Ev (fun k => signalbenchref01_Scale.f k n d x) (if x ≤ 4294967296 then ((n * x) / d, 0) else (0, 3)) := by
  have hv := vldR_iff v
  refine Ev.bind (ref01Valid_ev hn hd) (Ev.congr (fun k => if_pos v) (Ev.congr (fun k => if_neg (by omega)) ?_))
  by_cases c : x ≤ 4294967296
  · rw [if_pos c]
    have hb := mul_bound (n := n) (x := x) ⟨by omega, hv.2.2.2⟩ ⟨hx, c⟩
    refine Ev.congr (fun k => (if_neg (by omega)).trans ?_) (Ev.now _)
    rw [w64 (x := n * x) (by omega) (by omega), ref01floor_eq hb hv.1]
    rfl
  · rw [if_neg c]
    exact Ev.congr (fun k => if_pos (by omega)) (Ev.now _)
theorem refDelay_ev {l : List ByteArray} {r : List S48} {b : Int} (hs : StrsOk l) (hl : l.length ≤ 100000) (hr : r.length ≤ 140737488351232) (hb : -9223372036854775808 ≤ b ∧ b ≤ 9223372036854775807) : Ev (fun k => signalbenchref12_Delay.f k l r b) (delV l r b) := by
  unfold delV
  refine Ev.bind (refCheck_ev hs (by omega) hr) ?_
  by_cases c : chkV l r = 0
  · rw [if_pos c]
    refine Ev.congr (fun k => if_pos c) ?_
    have h := chk_0 c
    have h0 := smM_nonneg h.2.2.1
    have eL : longC l r = sm r := if_pos c
    have hbad : Ev (fun k => signalbenchref12_Delay.j0 k b true l r) ([], [], 2) := Ev.step (f := fun _ => some ([], [], 2)) (fun k => by simp only [signalbenchref12_Delay.j0]; rfl) (Ev.now _)
    have hgood : 0 ≤ b → b ≤ 1099511627776 - sm r → (r = [] → b = 0) → Ev (fun k => signalbenchref12_Delay.j0 k b false l r) (l, cln [] (delR b r), 0) := by
      intro hb0 hb1 hre
      have hlen := h.1
      have hl8 : ([] : List ByteArray).length + l.length < 8796093022208 := by simp only [List.length_nil]; omega
      have hr8 : ([] : List S48).length + r.length < 8796093022208 := by simp only [List.length_nil]; omega
      have hC := refCleanT_ev (r := delR b r) (delR_ok h.2.2.1 hb0).tk (by
        by_cases e : r = []
        · rw [e]
          show (0 : Int) ≤ _
          omega
        · rw [delR_sm b e]
          omega) (by rw [delR_len]; exact hlen)
      refine Ev.step (f := fun k => (signalbenchref09_Clean.f k (delR b r)).bind fun t338 => (some (l, t338, 0))) (fun k => ?_) (Ev.bind hC (Ev.now _))
      simp only [signalbenchref12_Delay.j0]
      rw [if_neg (by decide), Option.bind_some, if_pos hr8, Option.bind_some, Option.bind_some, if_pos hl8]
      cases r with
      | nil =>
        rw [List.nil_append, if_neg (by simp), Option.bind_some, if_pos hl8]
        rfl
      | cons x r =>
        have hx := h.2.2.1.cons
        have h2 := smM_nonneg hx.2
        simp only [sm] at hb1
        have r0 : rd_T48 (x :: r) 0 = x := by simp [rd_T48, List.getD]
        rw [List.nil_append, if_pos (by simp only [List.length_cons]; omega), if_pos (by simp only [List.length_cons]; omega), r0, w64 (x := x.f1 + b) (by omega) (by omega)]
        rfl
    by_cases c1 : b < 0
    · rw [if_pos (.inl c1)]
      exact Ev.congr (fun k => if_pos c1) hbad
    · refine Ev.congr (fun k => if_neg c1) (Ev.bind (refLong_ev hs (by omega) hr) ?_)
      rw [eL, w64 (x := 1099511627776 - sm r) (by omega) (by omega)]
      by_cases c2 : b > 1099511627776 - sm r
      · rw [if_pos (.inr (.inl c2))]
        exact Ev.congr (fun k => if_pos c2) hbad
      · refine Ev.congr (fun k => if_neg c2) ?_
        by_cases c4 : b > 0
        · refine Ev.congr (fun k => if_pos c4) ?_
          by_cases c3 : r = []
          · rw [show (((r.length : Nat) : Int) == 0) = true by rw [c3]; rfl, if_pos (.inr (.inr ⟨c3, by omega⟩))]
            exact hbad
          · rw [show (((r.length : Nat) : Int) == 0) = false from beq_eq_false_iff_ne.2 (fun e => c3 (List.eq_nil_of_length_eq_zero (by omega))), if_neg (fun h9 => h9.elim c1 (fun h8 => h8.elim c2 (fun k => c3 k.1)))]
            exact hgood (by omega) (by omega) (fun e => absurd e c3)
        · refine Ev.congr (fun k => if_neg c4) ?_
          rw [if_neg (fun h9 => h9.elim c1 (fun h8 => h8.elim c2 (fun k => k.2 (by omega))))]
          exact hgood (by omega) (by omega) (fun _ => by omega)
  · rw [if_neg c]
    exact Ev.congr (fun k => if_neg c) (Ev.now _)
theorem sclR_ge {n d : Int} (hn : 0 ≤ n) (hd : 1 ≤ d) : ∀ (r : List S48) (a : Int), Tk r → ∀ x ∈ sclR n d a r, 0 ≤ x.f1
  | [], a, h, x, hx => by simp [sclR] at hx
  | y :: r, a, h, x, hx => by
    have hy := h.cons
    rcases List.mem_cons.1 (show x ∈ (⟨y.f0, n * (a + y.f1) / d - n * a / d⟩ : S48) :: sclR n d (a + y.f1) r from hx) with rfl | hx
    · have := scl_mono (n := n) (d := d) (a := a) (b := a + y.f1) hn hd (by omega)
      show 0 ≤ n * (a + y.f1) / d - n * a / d
      omega
    · exact sclR_ge hn hd r _ hy.2 x hx
theorem sclR_len (n d : Int) : ∀ (r : List S48) (a : Int), (sclR n d a r).length = r.length
  | [], a => rfl
  | x :: r, a => by
    have := sclR_len n d r (a + x.f1)
    simp only [sclR, List.length_cons]
    omega
theorem clnZ_len : ∀ (l o : List S48), (clnZ o l).length ≤ o.length + l.length
  | [], o => by simp [clnZ]
  | x :: l, o => by
    unfold clnZ
    simp only [List.length_cons]
    by_cases c : 0 < x.f1
    · rw [if_pos c]
      have h1 := clnZ_len l (putR o x.f0 x.f1)
      have h2 := putR_len o x.f0 x.f1
      omega
    · rw [if_neg c]
      have h1 := clnZ_len l o
      omega
theorem refScl_l0 {n d : Int} (hn : (Lit.int .i64 n).wf = true) (hd : (Lit.int .i64 d).wf = true) (v : vldR n d = true) (h1 : 1 ≤ n) (l : List ByteArray) (hll : l.length ≤ 100000) {r : List S48} (hrl : r.length ≤ 262144) (Z : List S48) (hZ : ∀ x ∈ Z, 0 ≤ x.f1) (hZs : sm Z ≤ 1099511627776) (hZl : Z.length ≤ 262144) : ∀ (post pre acc : List S48) (a : Int), r = pre ++ post → Tk post → 0 ≤ a → a + sm post ≤ 4294967296 → acc.length = pre.length → Z = acc ++ sclR n d a post →
    n * (a + sm post) / d ≤ 1099511627776 →
    Ev (fun k => signalbenchref12_Scale.l0 k acc a (pre.length : Int) l r n d) (l, clnZ [] Z, 0)
  | [], pre, acc, a, e, ht, ha, hb, hac, eZ, hM => by
    have e1 : acc = Z := by
      rw [eZ]
      simp [sclR]
    subst e1
    have hl8 : ([] : List ByteArray).length + l.length < 8796093022208 := by simp only [List.length_nil]; omega
    refine Ev.step (f := fun k => (signalbenchref09_Clean.f k acc).bind fun t410 => (some (l, t410, 0))) (fun k => ?_) (Ev.bind (refCleanZ_ev hZ hZs hZl) (Ev.now _))
    simp only [signalbenchref12_Scale.l0]
    rw [if_neg (by rw [e]; simp), Option.bind_some, if_pos hl8]
    rfl
  | x :: post, pre, acc, a, e, ht, ha, hb, hac, eZ, hM => by
    have hv := vldR_iff v
    have hx := ht.cons
    have h2 := smT_nonneg hx.2
    simp only [sm] at hb hM
    have hlt : (pre.length : Int) < (r.length : Int) := by
      rw [e]
      exact mid_lt pre post x
    have hrx : rd_T48 r (pre.length : Int) = x := by
      rw [e]
      exact rd_mid pre post x
    have hpn : pre.length ≤ 262144 := by
      rw [e] at hrl
      simp only [List.length_append] at hrl
      omega
    have ex := succ_mid pre x (by omega)
    have ea : wrap64 (a + x.f1) = a + x.f1 := w64 (by omega) (by omega)
    have hS0 := ref01Scale_ev hn hd v h1 ha
    rw [if_pos (by omega)] at hS0
    have hS := ref01Scale_ev hn hd v h1 (show 0 ≤ a + x.f1 by omega)
    rw [if_pos (by omega)] at hS
    have m1 : n * a / d ≤ n * (a + x.f1) / d := scl_mono (by omega) hv.1 (by omega)
    have m2 : n * (a + x.f1) / d ≤ n * (a + (x.f1 + sm post)) / d := scl_mono (by omega) hv.1 (by omega)
    have m0 : 0 ≤ n * a / d := Int.ediv_nonneg (Int.mul_nonneg (by omega) ha) (by omega)
    have ew : wrap64 (n * (a + x.f1) / d - n * a / d) = n * (a + x.f1) / d - n * a / d := w64 (by omega) (by omega)
    have ih := refScl_l0 hn hd v h1 l hll hrl Z hZ hZs hZl post (pre ++ [x]) (acc ++ [(⟨x.f0, n * (a + x.f1) / d - n * a / d⟩ : S48)]) (a + x.f1) (by rw [e]; simp) hx.2 (by omega) (by omega) (by simp [hac]) (by rw [eZ]; simp [sclR]) (by rw [show a + x.f1 + sm post = a + (x.f1 + sm post) by omega]; exact hM)
    refine Ev.step (f := fun k => (signalbenchref01_Scale.f k n d a).bind fun bt395 => (signalbenchref01_Scale.f k n d (a + x.f1)).bind fun bt398 => (signalbenchref12_Scale.l0 k (acc ++ [(⟨x.f0, wrap64 (bt398.1 - bt395.1)⟩ : S48)]) (a + x.f1) (((pre ++ [x]).length : Nat) : Int) l r n d)) (fun k => ?_) (Ev.bind hS0 (Ev.bind hS ?_))
    · simp only [signalbenchref12_Scale.l0]
      rw [if_pos hlt, hrx, ea, ex]
      refine congrArg _ (funext fun t => ?_)
      rw [if_pos (Int.natCast_nonneg _)]
      refine congrArg _ (funext fun t => ?_)
      rw [if_pos (by omega)]
    · show Ev (fun k => signalbenchref12_Scale.l0 k (acc ++ [(⟨x.f0, wrap64 (n * (a + x.f1) / d - n * a / d)⟩ : S48)]) (a + x.f1) (((pre ++ [x]).length : Nat) : Int) l r n d) _
      rw [ew]
      exact ih
theorem refScale_ev {l : List ByteArray} {r : List S48} {n d : Int} (hs : StrsOk l) (hl : l.length ≤ 100000) (hr : r.length ≤ 140737488351232) (hn : (Lit.int .i64 n).wf = true) (hd : (Lit.int .i64 d).wf = true) : Ev (fun k => signalbenchref12_Scale.f k l r n d) (sclV l r n d) := by
  unfold sclV
  refine Ev.bind (refCheck_ev hs (by omega) hr) ?_
  by_cases c : chkV l r = 0
  · rw [if_pos c]
    refine Ev.congr (fun k => if_pos c) (Ev.bind (ref01Valid_ev hn hd) ?_)
    have h := chk_0 c
    have h0 := smM_nonneg h.2.2.1
    have hbad : Ev (fun k => signalbenchref12_Scale.j0 k true l r n d) ([], [], 1) := Ev.step (f := fun _ => some ([], [], 1)) (fun k => by simp only [signalbenchref12_Scale.j0]; rfl) (Ev.now _)
    by_cases v : vldR n d = true
    · refine Ev.congr (fun k => if_pos v) ?_
      by_cases c1 : n < 1
      · rw [decide_eq_true c1, if_neg (fun h => by omega)]
        exact hbad
      · rw [decide_eq_false c1, if_pos ⟨v, by omega⟩]
        have hv := vldR_iff v
        have hS := ref01Scale_ev hn hd v (by omega) h0
        have hL := refLong_ev hs (by omega) hr
        rw [show longC l r = sm r from if_pos c] at hL
        have hbad3 : Ev (fun k => signalbenchref12_Scale.j1 k true l r n d) ([], [], 3) := Ev.step (f := fun _ => some ([], [], 3)) (fun k => by simp only [signalbenchref12_Scale.j1]; rfl) (Ev.now _)
        refine Ev.step (f := fun k => (signalbenchref09_Long.f k l r).bind fun t571 => ((signalbenchref01_Scale.f k n d t571).bind fun bt572 => (if bt572.2 = 0 then (signalbenchref12_Scale.j1 k (decide (bt572.1 > 1099511627776)) l r n d) else (signalbenchref12_Scale.j1 k true l r n d)))) (fun k => ?_) (Ev.bind hL (Ev.bind hS ?_))
        · simp only [signalbenchref12_Scale.j0]
          rw [if_neg (by decide)]
        · by_cases c2 : sm r ≤ 4294967296
          · rw [if_pos c2]
            refine Ev.congr (fun k => if_pos rfl) ?_
            by_cases c3 : n * sm r / d > 1099511627776
            · rw [if_neg (fun h => by omega)]
              show Ev (fun k => signalbenchref12_Scale.j1 k (decide (n * sm r / d > 1099511627776)) l r n d) _
              rw [decide_eq_true c3]
              exact hbad3
            · rw [if_pos ⟨c2, by omega⟩]
              show Ev (fun k => signalbenchref12_Scale.j1 k (decide (n * sm r / d > 1099511627776)) l r n d) _
              rw [decide_eq_false c3]
              have e0 : n * 0 / d = 0 := by
                rw [Int.mul_zero]
                exact Int.zero_ediv d
              have hg := refScl_l0 hn hd v (by omega) l hl h.1 (sclR n d 0 r) (sclR_ge (by omega) hv.1 r 0 h.2.2.1.tk) (by rw [sclR_sm, e0, Int.zero_add]; omega) (by rw [sclR_len]; exact h.1) r [] [] 0 rfl h.2.2.1.tk (by omega) (by omega) rfl rfl (by rw [Int.zero_add]; omega)
              refine Ev.step (fun k => ?_) hg
              simp only [signalbenchref12_Scale.j1]
              rw [if_neg (by decide)]
              rfl
          · rw [if_neg c2, if_neg (fun h => c2 h.1)]
            exact Ev.congr (fun k => if_neg (by decide)) hbad3
    · rw [if_neg (fun h => v h.1)]
      exact Ev.congr (fun k => if_neg v) hbad
  · rw [if_neg c]
    exact Ev.congr (fun k => if_neg c) (Ev.now _)
theorem sclV_len (l : List ByteArray) (r : List S48) (n d : Int) : (sclV l r n d).1.length ≤ l.length ∧ (sclV l r n d).2.1.length ≤ r.length := by
  have e : (clnZ [] (sclR n d 0 r)).length ≤ r.length := by
    have h1 := clnZ_len (sclR n d 0 r) []
    rw [sclR_len] at h1
    simpa using h1
  unfold sclV
  split
  · split
    · split
      · exact ⟨Nat.le_refl _, e⟩
      · exact ⟨Nat.zero_le _, Nat.zero_le _⟩
    · exact ⟨Nat.zero_le _, Nat.zero_le _⟩
  · exact ⟨Nat.zero_le _, Nat.zero_le _⟩
theorem RemapTimes_pure {l : List ByteArray} {r : List S48} {b n d : Int} (hs : StrsOk l) (hb : (Lit.int .i64 b).wf = true) (hn : (Lit.int .i64 n).wf = true) (hd : (Lit.int .i64 d).wf = true) : ∃ k, signalbenchlaw12_RemapTimes.f k l r b n d = some true := by
  refine Ev.rounds (Ev.bind lives12_ev (Ev.congr (fun k => if_pos rfl) ?_))
  rw [few12_eq]
  refine Ev.congr (fun k => Option.bind_some _ _) ?_
  by_cases c : fewV12 l r = true
  · have hf : l.length ≤ 60 ∧ r.length ≤ 500 := of_decide_eq_true c
    refine Ev.congr (fun k => if_pos c) ?_
    have h1 := delV_len l r b
    have h2 := sclV_len l r n d
    have hb' := wf64 hb
    exact Ev.bind (Delay_ev hs (by omega) (by omega) hb') (Ev.bind (refDelay_ev hs (by omega) (by omega) hb') (Ev.bind (Scale_ev hs (by omega) (by omega) hn hd) (Ev.bind (refScale_ev hs (by omega) (by omega) hn hd) (Ev.congr (fun k => if_pos rfl) (Ev.bind (equal12_ev _ _ (by omega) (by omega)) (Ev.congr (fun k => if_pos rfl) (Ev.congr (fun k => if_pos rfl) (Ev.bind (equal12_ev _ _ (by omega) (by omega)) (Ev.now _)))))))))
  · exact Ev.congr (fun k => if_neg c) (Ev.now _)
end Go.Proofs.Ytllpgidmdomfcaa
