/- The law InjectPlaces as a plain statement on numbers and lists: with enough rounds it answers true; conditions: each number is one of its kind, no list or string is longer than its memory allows. -/
import Derived.Laws.BitsAllLaws
import Derived.WalkKit
import Derived.Test.YtkcekcnnjheamaaWMore
import Derived.Test.YtkcekcnnjheamaaQx0
import Derived.Test.YtkcekcnnjheamaaQx3
import Derived.Test.YtkcekcnnjheamaaQx4
import Derived.Test.YtkcekcnnjheamaaQx6
import Derived.Test.YtkcekcnnjheamaaQx7
import Derived.Test.YtkcekcnnjheamaaQx8
import Derived.Test.YtkcekcnnjheamaaQx10
import Derived.Test.YtkcekcnnjheamaaQx11
import Derived.Test.YtkcekcnnjheamaaQx17
import Derived.Test.YtkcekcnnjheamaaQx18
namespace Go.Proofs.Ytkcekcnnjheamaa
open Go Go.RowKit Go.Proofs.YtkcekcnnjheamaaW.PrintWords Go.Proofs.YtkcekcnnjheamaaW.PrintLast Go.Proofs.Ytkcekcnnjheamaa.Q
set_option linter.unusedVariables false
theorem w64 {x : Int} (h0 : -9223372036854775808 ≤ x) (h1 : x ≤ 9223372036854775807) : wrap64 x = x := by
 unfold wrap64
 omega
theorem succ_mid {α : Type} (pre : List α) (x : α) (h : pre.length ≤ 9223372036854775806) : wrap64 ((pre.length : Int) + 1) = ((pre ++ [x]).length : Int) := by
 rw [w64 (by omega) (by omega)]
 simp
theorem mid_snoc {α : Type} (pre post : List α) (x : α) : pre ++ x :: post = (pre ++ [x]) ++ post := by simp
theorem awake50_ev : Ev (fun k => lw_awake.f k) true := Ev.of (k := 60) (fun k => lw_awake.mono k) (by decide +kernel)
theorem awake50_then : Ev (fun k => (lw_awake.f k).bind fun t => some t) true := Ev.bind awake50_ev (Ev.now true)
theorem rdj_mid (pre post : List Int) (x : Int) : rd (pre ++ x :: post) (pre.length : Int) = x := by simp [rd, List.getD]
theorem midj_lt {α : Type} (pre post : List α) (x : α) : (pre.length : Int) < ((pre ++ x :: post).length : Int) := by
 simp only [List.length_append, List.length_cons]
 omega
theorem rdI_mid (pre post : List S23) (x : S23) : rd_T23 (pre ++ x :: post) (pre.length : Int) = x := by simp [rd_T23, List.getD]
theorem same50_l0 : ∀ (post pre : List S23), (pre ++ post).length ≤ 140737488351232 → Ev (fun k => r50_Same.l0 k (pre ++ post) (pre ++ post) (pre.length : Int)) true
 | [], pre, hl => by
  refine Ev.step (f := fun _ => some true) (fun k => ?_) (Ev.now _)
  simp only [r50_Same.l0]
  rw [if_neg (by simp)]
 | x :: post, pre, hl => by
  have hlt := midj_lt pre post x
  have hn : pre.length ≤ 9223372036854775806 := by
   simp only [List.length_append, List.length_cons] at hl
   omega
  have ih := same50_l0 post (pre ++ [x]) (by simpa using hl)
  rw [← mid_snoc pre post x] at ih
  refine Ev.step (fun k => ?_) ih
  simp only [r50_Same.l0]
  rw [if_pos hlt, if_pos (by omega), if_pos hlt, if_neg (by simp), succ_mid pre x hn]
theorem same50_ev (l : List S23) (hl : l.length ≤ 140737488351232) : Ev (fun k => r50_Same.f k l l) true := by
 have h := same50_l0 l [] (by simpa using hl)
 refine Ev.congr (fun k => ?_) h
 unfold r50_Same.f
 rw [if_pos rfl]
 rfl
def faultsV (a : ByteArray) : List Int := (r50_Faults.f 1 a).getD []
theorem pick_ {p : Prop} [Decidable p] {A B C D : Option (List Int)} {G : List Int → Prop} (h1 : p → ∃ r, A = some r ∧ B = some r ∧ G r) (h2 : ¬ p → ∃ r, C = some r ∧ D = some r ∧ G r) : ∃ r, (if p then A else C) = some r ∧ (if p then B else D) = some r ∧ G r := by
 by_cases c : p
 ·rw [if_pos c, if_pos c]
  exact h1 c
 ·rw [if_neg c, if_neg c]
  exact h2 c
theorem refFaults_j (a : ByteArray) (b : Bool) : ∃ r : List Int, (∀ k, r50_Faults.j0 (k + 1) a b = some r) ∧ (∀ k, inject_Faults.j0 (k + 1) a b = some r) ∧ r.length ≤ 4 ∧ ∀ x ∈ r, x ≠ 0 := by
 have h : ∃ r : List Int, r50_Faults.j0 (0 + 1) a b = some r ∧ inject_Faults.j0 (0 + 1) a b = some r ∧ (r.length ≤ 4 ∧ ∀ x ∈ r, x ≠ 0) := by
  simp only [r50_Faults.j0, inject_Faults.j0, inject_faults.f, Option.bind_some]
  repeat (refine pick_ (fun _ => ?_) (fun _ => ?_); · exact ⟨_, rfl, rfl, by simp, by simp⟩)
  exact ⟨_, rfl, rfl, by simp, by simp⟩
 obtain ⟨r, h1, h2, h3, h4⟩ := h
 exact ⟨r, fun k => h1, fun k => h2, h3, h4⟩
theorem faults_all (a : ByteArray) : (∀ k, r50_Faults.f (k + 1) a = some (faultsV a)) ∧ (∀ k, inject_Faults.f (k + 1) a = some (faultsV a)) ∧ (faultsV a).length ≤ 4 ∧ ∀ x ∈ faultsV a, x ≠ 0 := by
 unfold faultsV r50_Faults.f inject_Faults.f
 split
 ·obtain ⟨r, h1, h2, h3, h4⟩ := refFaults_j a (a.toList == ([109, 97, 110, 99, 104, 101, 115, 116, 101, 114] : List UInt8))
  have e := h1 0
  rw [Nat.zero_add] at e
  rw [e]
  exact ⟨h1, h2, h3, h4⟩
 ·obtain ⟨r, h1, h2, h3, h4⟩ := refFaults_j a (a.toList == ([115, 108, 105, 112] : List UInt8))
  have e := h1 0
  rw [Nat.zero_add] at e
  rw [e]
  exact ⟨h1, h2, h3, h4⟩
theorem refFaults_ev (a : ByteArray) : Ev (fun k => r50_Faults.f k a) (faultsV a) := Ev.step (f := fun _ => some (faultsV a)) (faults_all a).1 (Ev.now _)
theorem injFaults_ev (a : ByteArray) : Ev (fun k => inject_Faults.f k a) (faultsV a) := Ev.step (f := fun _ => some (faultsV a)) (faults_all a).2.1 (Ev.now _)
def hasL (n : Int) : List Int → Bool
 | [] => false
 | x :: l => if x = n then true else hasL n l
theorem hasL_mem {n : Int} : ∀ {l : List Int}, hasL n l = true → n ∈ l
 | [], h => by simp [hasL] at h
 | x :: l, h => by
  unfold hasL at h
  split at h
  ·rename_i e
   rw [e]
   exact List.mem_cons_self
  ·exact List.mem_cons_of_mem _ (hasL_mem h)
theorem injHas_l0 (n : Int) : ∀ (post pre : List Int), (pre ++ post).length ≤ 140737488351232 → Ev (fun k => inject_has.l0 k n (pre ++ post) ((pre ++ post).length : Int) (pre.length : Int)) (hasL n post)
 | [], pre, hl => by
  refine Ev.step (f := fun _ => some false) (fun k => ?_) (Ev.now _)
  simp only [inject_has.l0]
  rw [if_neg (by simp)]
 | x :: post, pre, hl => by
  have hlt := midj_lt pre post x
  have hn : pre.length ≤ 9223372036854775806 := by
   simp only [List.length_append, List.length_cons] at hl
   omega
  have ih := injHas_l0 n post (pre ++ [x]) (by simpa using hl)
  rw [← mid_snoc pre post x] at ih
  unfold hasL
  by_cases c : x = n
  ·rw [if_pos c]
   refine Ev.step (f := fun _ => some true) (fun k => ?_) (Ev.now _)
   simp only [inject_has.l0]
   rw [if_pos hlt, if_pos (by omega), if_pos hlt, rdj_mid, if_pos c]
  ·rw [if_neg c]
   refine Ev.step (fun k => ?_) ih
   simp only [inject_has.l0]
   rw [if_pos hlt, if_pos (by omega), if_pos hlt, rdj_mid, if_neg c, succ_mid pre x hn]
theorem injHas_ev (a : ByteArray) (n : Int) : Ev (fun k => inject_has.f k a n) (hasL n (faultsV a)) := by
 have h := injHas_l0 n (faultsV a) [] (by have := (faults_all a).2.2.1; simp; omega)
 exact Ev.bind (injFaults_ev a) h
theorem refHas_l0 (n : Int) : ∀ (post pre : List Int), (pre ++ post).length ≤ 140737488351232 → Ev (fun k => r50_has.l0 k (pre ++ post) n (pre.length : Int)) (hasL n post)
 | [], pre, hl => by
  refine Ev.step (f := fun _ => some false) (fun k => ?_) (Ev.now _)
  simp only [r50_has.l0]
  rw [if_neg (by simp)]
 | x :: post, pre, hl => by
  have hlt := midj_lt pre post x
  have hn : pre.length ≤ 9223372036854775806 := by
   simp only [List.length_append, List.length_cons] at hl
   omega
  have ih := refHas_l0 n post (pre ++ [x]) (by simpa using hl)
  rw [← mid_snoc pre post x] at ih
  unfold hasL
  by_cases c : x = n
  ·rw [if_pos c]
   refine Ev.step (f := fun _ => some true) (fun k => ?_) (Ev.now _)
   simp only [r50_has.l0]
   rw [if_pos hlt, if_pos (by omega), rdj_mid, if_pos c]
  ·rw [if_neg c]
   refine Ev.step (fun k => ?_) ih
   simp only [r50_has.l0]
   rw [if_pos hlt, if_pos (by omega), rdj_mid, if_neg c, succ_mid pre x hn]
theorem refHas_ev (a : ByteArray) (n : Int) : Ev (fun k => r50_has.f k (faultsV a) n) (hasL n (faultsV a)) := by
 have h := refHas_l0 n (faultsV a) [] (by have := (faults_all a).2.2.1; simp; omega)
 exact h
theorem can_j1 (a : ByteArray) (b : Bool) (g v x : Int) (d : ByteArray) (f : Int) : ∃ r : Bool, (∀ k, inject_Can.j1 (k + 1) a b g v x d f = some r) ∧ ∀ k, r50_Can.j1 (k + 1) a b g v x d f = some r := by
 simp only [inject_Can.j1, r50_Can.j1]
 repeat' split
 all_goals exact ⟨_, fun _ => rfl, fun _ => rfl⟩
theorem can_j0 (a : ByteArray) (b : Bool) (g v x : Int) (d : ByteArray) (f : Int) : ∃ r : Bool, (∀ k, inject_Can.j0 (k + 2) a b g v x d f = some r) ∧ ∀ k, r50_Can.j0 (k + 2) a b g v x d f = some r := by
 simp only [inject_Can.j0, r50_Can.j0]
 split
 ·exact ⟨_, fun _ => rfl, fun _ => rfl⟩
 ·split
  ·exact can_j1 a _ g v x d f
  ·exact can_j1 a _ g v x d f
theorem ev_two {α : Type} {g : Nat → Option α} {r : α} (h : ∀ k, g (k + 2) = some r) : Ev g r := ⟨2, fun n hn => by
 obtain ⟨m, rfl⟩ : ∃ m, n = m + 2 := ⟨n - 2, by omega⟩
 exact h m⟩
theorem can_ex (a : ByteArray) (g v x : Int) (d : ByteArray) (f n : Int) : ∃ r : Bool, Ev (fun k => inject_Can.f k a g v x d f n) r ∧ Ev (fun k => r50_Can.f k a g v x d f n) r ∧ (r = true → hasL n (faultsV a) = true) := by
 cases e : hasL n (faultsV a) with
 | false =>
  have h1 := injHas_ev a n
  have h2 := refHas_ev a n
  rw [e] at h1 h2
  exact ⟨false, Ev.bind h1 (Ev.congr (fun k => if_neg Bool.false_ne_true) (Ev.now _)), Ev.bind (refFaults_ev a) (Ev.bind h2 (Ev.congr (fun k => if_neg Bool.false_ne_true) (Ev.now _))), fun h => h⟩
 | true =>
  have h1 := injHas_ev a n
  have h2 := refHas_ev a n
  rw [e] at h1 h2
  have key : ∃ r : Bool, Ev (fun k => (if a.toList = ([109, 97, 110, 99, 104, 101, 115, 116, 101, 114] : List UInt8) then (if x ≥ 0 then (some (decide (x < (d.size : Int)))) else (some false)) else (if a.toList = ([115, 116, 117, 102, 102] : List UInt8) then (inject_Can.j0 k a (a.toList == ([115, 116, 117, 102, 102] : List UInt8)) g v x d f) else (if a.toList = ([115, 112, 105] : List UInt8) then (inject_Can.j0 k a (a.toList == ([115, 112, 105] : List UInt8)) g v x d f) else (inject_Can.j0 k a (a.toList == ([115, 108, 105, 112] : List UInt8)) g v x d f))))) r ∧
    Ev (fun k => (if a.toList = ([109, 97, 110, 99, 104, 101, 115, 116, 101, 114] : List UInt8) then (if x ≥ 0 then (some (decide (x < (d.size : Int)))) else (some false)) else (if a.toList = ([115, 116, 117, 102, 102] : List UInt8) then (r50_Can.j0 k a (a.toList == ([115, 116, 117, 102, 102] : List UInt8)) g v x d f) else (if a.toList = ([115, 112, 105] : List UInt8) then (r50_Can.j0 k a (a.toList == ([115, 112, 105] : List UInt8)) g v x d f) else (r50_Can.j0 k a (a.toList == ([115, 108, 105, 112] : List UInt8)) g v x d f))))) r := by
   split
   ·split
    ·exact ⟨_, Ev.now _, Ev.now _⟩
    ·exact ⟨_, Ev.now _, Ev.now _⟩
   ·split
    ·obtain ⟨r, k1, k2⟩ := can_j0 a (a.toList == ([115, 116, 117, 102, 102] : List UInt8)) g v x d f
     exact ⟨r, ev_two k1, ev_two k2⟩
    ·split
     ·obtain ⟨r, k1, k2⟩ := can_j0 a (a.toList == ([115, 112, 105] : List UInt8)) g v x d f
      exact ⟨r, ev_two k1, ev_two k2⟩
     ·obtain ⟨r, k1, k2⟩ := can_j0 a (a.toList == ([115, 108, 105, 112] : List UInt8)) g v x d f
      exact ⟨r, ev_two k1, ev_two k2⟩
  obtain ⟨r, k1, k2⟩ := key
  exact ⟨r, Ev.bind h1 (Ev.congr (fun k => if_pos rfl) k1), Ev.bind (refFaults_ev a) (Ev.bind h2 (Ev.congr (fun k => if_pos rfl) k2)), fun _ => rfl⟩
noncomputable def canV (a : ByteArray) (y : S23) (n : Int) : Bool := Classical.choose (can_ex a y.f0 y.f1 y.f2 y.f3 y.f4 n)
theorem canV_ev (a : ByteArray) (y : S23) (n : Int) : Ev (fun k => inject_Can.f k a y.f0 y.f1 y.f2 y.f3 y.f4 n) (canV a y n) ∧ Ev (fun k => r50_Can.f k a y.f0 y.f1 y.f2 y.f3 y.f4 n) (canV a y n) ∧ (canV a y n = true → hasL n (faultsV a) = true) := Classical.choose_spec (can_ex a y.f0 y.f1 y.f2 y.f3 y.f4 n)
def chkV (a : ByteArray) (f e n : Int) : Int := if f < 0 then 1 else if e < 1 then 1 else if hasL n (faultsV a) = true then 0 else 1
theorem injCheck_ev (a : ByteArray) (m f e n : Int) : Ev (fun k => inject_check.f k a m f e n) (chkV a f e n) := by
 unfold chkV inject_check.f
 by_cases c1 : f < 0
 ·rw [if_pos c1]
  exact Ev.congr (fun k => if_pos c1) (Ev.now _)
 ·rw [if_neg c1]
  refine Ev.congr (fun k => if_neg c1) ?_
  by_cases c2 : e < 1
  ·rw [if_pos c2]
   exact Ev.congr (fun k => if_pos c2) (Ev.now _)
  ·rw [if_neg c2]
   refine Ev.congr (fun k => if_neg c2) (Ev.bind (injHas_ev a n) ?_)
   cases hasL n (faultsV a) with
   | true => exact Ev.congr (fun k => if_pos rfl) (Ev.now _)
   | false => exact Ev.congr (fun k => if_neg Bool.false_ne_true) (Ev.now _)
theorem chkV_ok {a : ByteArray} {f e n : Int} (h : chkV a f e n = 0) : 0 ≤ f ∧ 1 ≤ e ∧ hasL n (faultsV a) = true := by
 unfold chkV at h
 split at h
 ·omega
 ·split at h
  ·omega
  ·split at h
   ·rename_i c
    exact ⟨by omega, by omega, c⟩
   ·omega
abbrev plP (a : ByteArray) (f e n : Int) (i : Int) (y : S23) : Prop := f ≤ i ∧ Int.tmod (wrap64 (i - f)) e = 0 ∧ y.f4 = 0 ∧ canV a y n = true
noncomputable def plF (a : ByteArray) (f e n : Int) : Nat → List S23 → List Int
 | _, [] => []
 | i, y :: l => if plP a f e n (i : Int) y then (i : Int) :: plF a f e n (i + 1) l else plF a f e n (i + 1) l
theorem plF_bound (a : ByteArray) (f e n : Int) : ∀ (l : List S23) (i : Nat), (plF a f e n i l).length ≤ l.length ∧ ∀ p ∈ plF a f e n i l, (i : Int) ≤ p ∧ p < (i : Int) + l.length
 | [], i => ⟨Nat.le_refl _, fun p hp => by simp [plF] at hp⟩
 | y :: l, i => by
  obtain ⟨h1, h2⟩ := plF_bound a f e n l (i + 1)
  unfold plF
  split
  ·refine ⟨by simp only [List.length_cons]; omega, fun p hp => ?_⟩
   simp only [List.length_cons]
   rcases List.mem_cons.1 hp with rfl | hp
   ·omega
   ·have := h2 p hp
    omega
  ·refine ⟨by simp only [List.length_cons]; omega, fun p hp => ?_⟩
   simp only [List.length_cons]
   have := h2 p hp
   omega
theorem injPlaces_l0 (a : ByteArray) (m f e n : Int) (he : 1 ≤ e) : ∀ (post pre : List S23) (out : List Int), (pre ++ post).length ≤ 2932031007402 → out.length + post.length ≤ 2932031007402 →
  Ev (fun k => inject_Places.l0 k a out (pre ++ post) ((pre ++ post).length : Int) (pre.length : Int) m f e n) (out ++ plF a f e n pre.length post)
 | [], pre, out, hl, ho => by
  refine Ev.step (f := fun _ => some out) (fun k => ?_) (by rw [plF, List.append_nil]; exact Ev.now _)
  simp only [inject_Places.l0]
  rw [if_neg (by simp)]
 | y :: post, pre, out, hl, ho => by
  have hlt := midj_lt pre post y
  have hn : pre.length ≤ 9223372036854775806 := by
   simp only [List.length_append, List.length_cons] at hl
   omega
  simp only [List.length_cons] at ho
  have h1 := fun o (h : o.length + post.length ≤ 2932031007402) => injPlaces_l0 a m f e n he post (pre ++ [y]) o (by simpa using hl) h
  have el : (pre ++ [y]).length = pre.length + 1 := by simp
  rw [← mid_snoc pre post y] at h1
  have no : ¬ plP a f e n (pre.length : Int) y → Ev (fun k => inject_Places.l0 k a out (pre ++ y :: post) ((pre ++ y :: post).length : Int) (wrap64 ((pre.length : Int) + 1)) m f e n) (out ++ plF a f e n pre.length (y :: post)) := by
   intro c
   have h2 := h1 out (by omega)
   rw [plF, if_neg c, succ_mid pre y hn]
   rw [el] at h2 ⊢
   exact h2
  by_cases c1 : (pre.length : Int) ≥ f
  ·by_cases c2 : Int.tmod (wrap64 ((pre.length : Int) - f)) e = 0
   ·by_cases c3 : y.f4 = 0
    ·have hc := (canV_ev a y n).1
     refine Ev.step (f := fun k => (inject_Can.f k a y.f0 y.f1 y.f2 y.f3 y.f4 n).bind fun t223 => (if t223 = true then (if out.length < 17592186044416 then (inject_Places.l0 k a (out ++ [(pre.length : Int)]) (pre ++ y :: post) ((pre ++ y :: post).length : Int) (wrap64 ((pre.length : Int) + 1)) m f e n) else (none)) else (inject_Places.l0 k a out (pre ++ y :: post) ((pre ++ y :: post).length : Int) (wrap64 ((pre.length : Int) + 1)) m f e n))) (fun k => ?_) (Ev.bind hc ?_)
     ·simp only [inject_Places.l0]
      rw [if_pos hlt, if_pos (by omega), if_pos hlt, if_pos c1, if_neg (by omega), if_pos c2, rdI_mid, if_pos c3]
     ·cases hv : canV a y n with
      | true =>
       refine Ev.congr (fun k => (if_pos rfl).trans (if_pos (by omega))) ?_
       have h2 := h1 (out ++ [(pre.length : Int)]) (by simp only [List.length_append, List.length_cons, List.length_nil]; omega)
       rw [plF, if_pos ⟨c1, c2, c3, hv⟩, succ_mid pre y hn, mid_snoc out (plF a f e n (pre.length + 1) post) _]
       rw [el] at h2 ⊢
       exact h2
      | false =>
       exact Ev.congr (fun k => if_neg Bool.false_ne_true) (no (fun h => by rw [h.2.2.2] at hv; cases hv))
    ·refine Ev.step (fun k => ?_) (no (fun h => c3 h.2.2.1))
     simp only [inject_Places.l0]
     rw [if_pos hlt, if_pos (by omega), if_pos hlt, if_pos c1, if_neg (by omega), if_pos c2, rdI_mid, if_neg c3]
   ·refine Ev.step (fun k => ?_) (no (fun h => c2 h.2.1))
    simp only [inject_Places.l0]
    rw [if_pos hlt, if_pos (by omega), if_pos hlt, if_pos c1, if_neg (by omega), if_neg c2]
  ·refine Ev.step (fun k => ?_) (no (fun h => c1 h.1))
   simp only [inject_Places.l0]
   rw [if_pos hlt, if_pos (by omega), if_pos hlt, if_neg c1]
noncomputable def plsV (a : ByteArray) (l : List S23) (f e n : Int) : List Int := if chkV a f e n = 0 then plF a f e n 0 l else []
theorem injPlaces_ev {a : ByteArray} {l : List S23} {m f e n : Int} (hl : l.length ≤ 2932031007401) : Ev (fun k => inject_Places.f k a l m f e n) (plsV a l f e n) := by
 unfold plsV
 refine Ev.bind (injCheck_ev a m f e n) ?_
 by_cases c : chkV a f e n = 0
 ·rw [if_pos c]
  have h := injPlaces_l0 a m f e n (chkV_ok c).2.1 l [] [] (by simp; omega) (by simp; omega)
  exact Ev.congr (fun k => if_pos c) h
 ·rw [if_neg c]
  exact Ev.congr (fun k => if_neg c) (Ev.now _)
def aplF (n : Int) : List S23 → List Int → List S23
 | acc, [] => acc
 | acc, p :: ps => aplF n (acc.set (p : Int).toNat ⟨(rd_T23 acc p).f0, (rd_T23 acc p).f1, (rd_T23 acc p).f2, (rd_T23 acc p).f3, n⟩) ps
theorem injApply_l0 (m f e n : Int) : ∀ (post pre : List Int) (acc : List S23), (∀ p ∈ post, 0 ≤ p ∧ p < (acc.length : Int)) → (pre ++ post).length ≤ 2932031007402 →
  Ev (fun k => inject_Apply.l0 k acc (pre ++ post) ((pre ++ post).length : Int) (pre.length : Int) m f e n) (aplF n acc post, 0)
 | [], pre, acc, hp, hl => by
  refine Ev.step (f := fun _ => some (acc, 0)) (fun k => ?_) (Ev.now _)
  simp only [inject_Apply.l0]
  rw [if_neg (by simp)]
 | p :: post, pre, acc, hp, hl => by
  have hlt := midj_lt pre post p
  have hn : pre.length ≤ 9223372036854775806 := by
   simp only [List.length_append, List.length_cons] at hl
   omega
  have h0 := hp p (by simp)
  have ih := injApply_l0 m f e n post (pre ++ [p]) (acc.set (p : Int).toNat ⟨(rd_T23 acc p).f0, (rd_T23 acc p).f1, (rd_T23 acc p).f2, (rd_T23 acc p).f3, n⟩) (fun q hq => by rw [List.length_set]; exact hp q (by simp [hq])) (by simpa using hl)
  rw [← mid_snoc pre post p] at ih
  refine Ev.step (fun k => ?_) ih
  simp only [inject_Apply.l0]
  rw [if_pos hlt, if_pos (by omega), if_pos hlt, rdj_mid, if_pos h0.1, if_pos h0.2, succ_mid pre p hn]
noncomputable def aplV (a : ByteArray) (l : List S23) (f e n : Int) : List S23 × Int := if chkV a f e n = 0 then (aplF n l (plF a f e n 0 l), 0) else ([], chkV a f e n)
theorem injApply_ev {a : ByteArray} {l : List S23} {m f e n : Int} (hl : l.length ≤ 2932031007401) : Ev (fun k => inject_Apply.f k a l m f e n) (aplV a l f e n) := by
 unfold aplV
 refine Ev.bind (injCheck_ev a m f e n) ?_
 by_cases c : chkV a f e n = 0
 ·rw [if_pos c]
  obtain ⟨b1, b2⟩ := plF_bound a f e n l 0
  have h := injApply_l0 m f e n (plF a f e n 0 l) [] l (fun p hp => by have := b2 p hp; omega) (by simp; omega)
  have hp := injPlaces_ev (a := a) (m := m) (f := f) (e := e) (n := n) hl
  unfold plsV at hp
  rw [if_pos c] at hp
  refine Ev.congr (fun k => (if_pos c).trans (if_pos (by simp; omega))) (Ev.bind hp ?_)
  exact h
 ·rw [if_neg c]
  exact Ev.congr (fun k => if_neg c) (Ev.now _)
def flI (n : Int) (y : S23) : S23 := ⟨y.f0, y.f1, y.f2, y.f3, n⟩
noncomputable def mrk (a : ByteArray) (f e n : Int) : Nat → List S23 → List S23
 | _, [] => []
 | i, y :: l => (if plP a f e n (i : Int) y then flI n y else y) :: mrk a f e n (i + 1) l
theorem mrk_len (a : ByteArray) (f e n : Int) : ∀ (l : List S23) (i : Nat), (mrk a f e n i l).length = l.length
 | [], i => rfl
 | y :: l, i => by simp only [mrk, List.length_cons, mrk_len a f e n l]
theorem aplF_mrk (a : ByteArray) (f e n : Int) : ∀ (l pre : List S23), aplF n (pre ++ l) (plF a f e n pre.length l) = pre ++ mrk a f e n pre.length l
 | [], pre => rfl
 | y :: l, pre => by
  have el : ∀ z : S23, (pre ++ [z]).length = pre.length + 1 := fun z => by simp
  unfold plF mrk
  split
  ·have ih := aplF_mrk a f e n l (pre ++ [flI n y])
   rw [el] at ih
   unfold aplF
   rw [rdI_mid, Int.toNat_natCast]
   have e1 : (pre ++ y :: l).set pre.length (⟨y.f0, y.f1, y.f2, y.f3, n⟩ : S23) = (pre ++ [flI n y]) ++ l := by simp [flI]
   rw [e1, ih]
   simp
  ·have ih := aplF_mrk a f e n l (pre ++ [y])
   rw [el] at ih
   rw [mid_snoc pre l y, ih]
   simp
theorem plF_mrk (a : ByteArray) (f e n : Int) (hn : n ≠ 0) : ∀ (l : List S23) (i : Nat), plF a f e n i (mrk a f e n i l) = []
 | [], i => rfl
 | y :: l, i => by
  have ih := plF_mrk a f e n hn l (i + 1)
  unfold mrk
  split
  ·rw [plF, if_neg (fun h => hn h.2.2.1)]
   exact ih
  ·rename_i c
   rw [plF, if_neg c]
   exact ih
theorem placesL (a : ByteArray) (f e n : Int) (M : List S23) (m : Int) (L PL : List Int) (r : Bool) (hM : M.length ≤ 2932031007401) (hPL : PL.length ≤ 2932031007401) (LL : List S23)
  (hend : Ev (fun k => (inject_Apply.f k a M m f e n).bind fun bt541 => (if bt541.2 = 0 then ((r50_Same.f k bt541.1 M).bind fun t545 => (if t545 = true then ((inject_Places.f k a M m f e n).bind fun t546 => (if (t546.length : Int) = 0 then ((lw_awake.f k).bind fun t549 => (some t549)) else (none))) else (none))) else (none))) true) :
  ∀ (post pre Mpre : List S23) (ppre : List Int), LL = pre ++ post → M = Mpre ++ mrk a f e n pre.length post → Mpre.length = pre.length → PL = ppre ++ plF a f e n pre.length post → LL.length ≤ 2932031007401 →
  Ev (fun k => lw_InjectPlaces.l0 k a LL M PL (ppre.length : Int) (pre.length : Int) m f e n) true
 | [], pre, Mpre, ppre, e1, e2, e3, e4, hl => by
  refine Ev.step (fun k => ?_) hend
  simp only [lw_InjectPlaces.l0]
  have h1 : (ppre.length : Int) = (PL.length : Int) := by
   rw [e4]
   simp [plF]
  rw [if_neg (by rw [e1]; simp)]
  simp only [h1, if_true]
 | y :: post, pre, Mpre, ppre, e1, e2, e3, e4, hl => by
  have hlt : (pre.length : Int) < (LL.length : Int) := by
   rw [e1]
   exact midj_lt pre post y
  have hn : pre.length ≤ 9223372036854775806 := by omega
  have ey : rd_T23 LL (pre.length : Int) = y := by
   rw [e1]
   exact rdI_mid pre post y
  have el : (pre ++ [y]).length = pre.length + 1 := by simp
  have e1' : LL = (pre ++ [y]) ++ post := by rw [e1]; simp
  obtain ⟨pb1, pb2⟩ := plF_bound a f e n post (pre.length + 1)
  by_cases c : plP a f e n (pre.length : Int) y
  ·rw [mrk, if_pos c] at e2
   rw [plF, if_pos c] at e4
   have hm : (pre.length : Int) < (M.length : Int) := by
    rw [e2, ← e3]
    exact midj_lt Mpre _ _
   have em : rd_T23 M (pre.length : Int) = flI n y := by
    rw [e2, ← e3]
    exact rdI_mid Mpre _ _
   have hp : (ppre.length : Int) < (PL.length : Int) := by
    rw [e4]
    exact midj_lt ppre _ _
   have ep : rd PL (ppre.length : Int) = (pre.length : Int) := by
    rw [e4]
    exact rdj_mid ppre _ _
   have hpn : ppre.length ≤ 9223372036854775806 := by omega
   have ih := placesL a f e n M m L PL r hM hPL LL hend post (pre ++ [y]) (Mpre ++ [flI n y]) (ppre ++ [(pre.length : Int)]) e1' (by rw [el, e2]; simp) (by simp [e3]) (by rw [el, e4]; simp) hl
   have hc := (canV_ev a y n).1
   rw [c.2.2.2] at hc
   have h2 : Ev (fun k => lw_InjectPlaces.j2 k a LL M PL (ppre.length : Int) (pre.length : Int) false m f e n y.f0 y.f1 y.f2 y.f3 y.f4) true := by
    refine Ev.step (fun k => ?_) ih
    simp only [lw_InjectPlaces.j2]
    rw [if_neg Bool.false_ne_true, if_pos (by omega), if_pos hm, em, if_neg (by simp [flI]), succ_mid ppre _ hpn, succ_mid pre y hn]
   have h1 : Ev (fun k => lw_InjectPlaces.j1 k a LL M PL (ppre.length : Int) (pre.length : Int) true m f e n y.f0 y.f1 y.f2 y.f3 y.f4) true := by
    refine Ev.step (f := fun k => (inject_Can.f k a y.f0 y.f1 y.f2 y.f3 y.f4 n).bind fun t538 => (lw_InjectPlaces.j2 k a LL M PL (ppre.length : Int) (pre.length : Int) (!t538) m f e n y.f0 y.f1 y.f2 y.f3 y.f4)) (fun k => ?_) (Ev.bind hc h2)
    simp only [lw_InjectPlaces.j1]
    rw [if_pos trivial, if_pos c.2.2.1]
   refine Ev.step (fun k => ?_) h1
   simp only [lw_InjectPlaces.l0]
   rw [if_pos hlt, if_pos (by omega), if_pos hp, if_pos (by omega), ep, ey, beq_self_eq_true]
  ·rw [mrk, if_neg c] at e2
   rw [plF, if_neg c] at e4
   have hm : (pre.length : Int) < (M.length : Int) := by
    rw [e2, ← e3]
    exact midj_lt Mpre _ _
   have em : rd_T23 M (pre.length : Int) = y := by
    rw [e2, ← e3]
    exact rdI_mid Mpre _ _
   have ih := placesL a f e n M m L PL r hM hPL LL hend post (pre ++ [y]) (Mpre ++ [y]) ppre e1' (by rw [el, e2]; simp) (by simp [e3]) (by rw [el, e4]) hl
   have h1 : Ev (fun k => lw_InjectPlaces.j1 k a LL M PL (ppre.length : Int) (pre.length : Int) false m f e n y.f0 y.f1 y.f2 y.f3 y.f4) true := by
    refine Ev.step (fun k => ?_) ih
    simp only [lw_InjectPlaces.j1]
    rw [if_neg Bool.false_ne_true, if_pos (by omega), if_pos hm, em, if_neg (by simp), succ_mid pre y hn]
   refine Ev.step (fun k => ?_) h1
   simp only [lw_InjectPlaces.l0]
   rw [if_pos hlt, if_pos (by omega), ey]
   by_cases hp : (ppre.length : Int) < (PL.length : Int)
   ·have hne : (rd PL (ppre.length : Int) == (pre.length : Int)) = false := by
     cases hq : plF a f e n (pre.length + 1) post with
     | nil =>
      exfalso
      rw [e4, hq, List.append_nil] at hp
      omega
     | cons q qs =>
      rw [e4, hq, rdj_mid]
      have := pb2 q (by rw [hq]; simp)
      simp
      omega
    rw [if_pos hp, if_pos (by omega), hne]
   ·rw [if_neg hp]
theorem InjectPlaces_pure {a : ByteArray} {l : List S23} {m f e n : Int} (hl : l.length ≤ 2932031007401) : ∃ k, lw_InjectPlaces.f k a l m f e n = some true := by
 refine Ev.rounds (g := fun k => lw_InjectPlaces.f k a l m f e n) (Ev.bind (injApply_ev hl) (Ev.bind (injPlaces_ev hl) ?_))
 by_cases c : chkV a f e n = 0
 ·have ea : aplV a l f e n = (mrk a f e n 0 l, 0) := by
   unfold aplV
   rw [if_pos c]
   have h := aplF_mrk a f e n l []
   simp only [List.nil_append, List.length_nil] at h
   rw [h]
  have ep : plsV a l f e n = plF a f e n 0 l := if_pos c
  obtain ⟨c1, c2, c3⟩ := chkV_ok c
  have hn : n ≠ 0 := (faults_all a).2.2.2 n (hasL_mem c3)
  have hM : (mrk a f e n 0 l).length ≤ 2932031007401 := by
   rw [mrk_len]
   exact hl
  have hb := plF_bound a f e n l 0
  rw [ea, ep]
  refine Ev.congr (fun k => (if_pos rfl).trans (if_pos (by rw [mrk_len]))) ?_
  have w1 := same50_ev (mrk a f e n 0 l) (by omega)
  have eM : aplV a (mrk a f e n 0 l) f e n = (mrk a f e n 0 l, 0) := by
   unfold aplV
   rw [if_pos c, plF_mrk a f e n hn]
   rfl
  have h1 := injApply_ev (a := a) (m := m) (f := f) (e := e) (n := n) hM
  have h2 := injPlaces_ev (a := a) (m := m) (f := f) (e := e) (n := n) hM
  have e2 : plsV a (mrk a f e n 0 l) f e n = [] := by
   unfold plsV
   rw [if_pos c, plF_mrk a f e n hn]
  rw [eM] at h1
  rw [e2] at h2
  have h := placesL a f e n (mrk a f e n 0 l) m [] (plF a f e n 0 l) true hM (by omega) l (Ev.bind h1 (Ev.congr (fun k => if_pos rfl) (Ev.bind w1 (Ev.congr (fun k => if_pos rfl) (Ev.bind h2 (Ev.congr (fun k => if_pos rfl) awake50_then)))))) l [] [] [] rfl rfl rfl rfl hl
  exact h
 ·have ea : aplV a l f e n = ([], chkV a f e n) := if_neg c
  have ep : plsV a l f e n = [] := if_neg c
  rw [ea, ep]
  exact Ev.congr (fun k => (if_neg c).trans ((if_pos rfl).trans (if_pos rfl))) awake50_then
end Go.Proofs.Ytkcekcnnjheamaa
