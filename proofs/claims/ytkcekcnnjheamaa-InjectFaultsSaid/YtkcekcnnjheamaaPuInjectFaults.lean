/- The law InjectFaults as a plain statement on numbers and lists: with enough rounds it answers true; conditions: each number is one of its kind, no list or string is longer than its memory allows. -/
import Derived.Laws.BitsAllLaws
import Derived.WalkKit
import Derived.Test.YtkcekcnnjheamaaWMore
import Derived.Test.YtkcekcnnjheamaaQx2
import Derived.Test.YtkcekcnnjheamaaQx3
import Derived.Test.YtkcekcnnjheamaaQx5
import Derived.Test.YtkcekcnnjheamaaQx6
import Derived.Test.YtkcekcnnjheamaaQx8
import Derived.Test.YtkcekcnnjheamaaQx10
import Derived.Test.YtkcekcnnjheamaaQx16
import Derived.Test.YtkcekcnnjheamaaQx17
namespace Go.Proofs.Ytkcekcnnjheamaa
open Go Go.RowKit Go.Proofs.YtkcekcnnjheamaaW.PrintWords Go.Proofs.YtkcekcnnjheamaaW.PrintLast Go.Proofs.Ytkcekcnnjheamaa.Q
set_option linter.unusedVariables false
theorem w64 {x : Int} (h0 : -9223372036854775808 ≤ x) (h1 : x ≤ 9223372036854775807) : wrap64 x = x := by
 unfold wrap64
 omega
theorem succ_mid {α : Type} (pre : List α) (x : α) (h : pre.length ≤ 9223372036854775806) : wrap64 ((pre.length : Int) + 1) = ((pre ++ [x]).length : Int) := by
 rw [w64 (by omega) (by omega)]
 simp
theorem mid_snoc {α : Type} (pre post : List α) (x : α) : pre ++ x :: post = (pre ++ [x]) ++ post := by simp
theorem awake50_ev : Ev (fun k => lw_awake.f k) true := Ev.of (k := 60) (fun k => lw_awake.mono k) (by decide +kernel)
theorem awake50_then : Ev (fun k => (lw_awake.f k).bind fun t => some t) true := Ev.bind awake50_ev (Ev.now true)
theorem rdj_mid (pre post : List Int) (x : Int) : rd (pre ++ x :: post) (pre.length : Int) = x := by simp [rd, List.getD]
theorem midj_lt {α : Type} (pre post : List α) (x : α) : (pre.length : Int) < ((pre ++ x :: post).length : Int) := by
 simp only [List.length_append, List.length_cons]
 omega
theorem ints50_l0 : ∀ (post pre : List Int), (pre ++ post).length ≤ 140737488351232 → Ev (fun k => lw_ints.l0 k (pre ++ post) (pre ++ post) (pre.length : Int)) true
 | [], pre, hl => by
  refine Ev.step (f := fun _ => some true) (fun k => ?_) (Ev.now _)
  simp only [lw_ints.l0]
  rw [if_neg (by simp)]
 | x :: post, pre, hl => by
  have hlt := midj_lt pre post x
  have hn : pre.length ≤ 9223372036854775806 := by
   simp only [List.length_append, List.length_cons] at hl
   omega
  have ih := ints50_l0 post (pre ++ [x]) (by simpa using hl)
  rw [← mid_snoc pre post x] at ih
  refine Ev.step (fun k => ?_) ih
  simp only [lw_ints.l0]
  rw [if_pos hlt, if_pos (by omega), if_pos hlt, if_pos trivial, succ_mid pre x hn]
theorem ints50_ev (l : List Int) (hl : l.length ≤ 140737488351232) : Ev (fun k => lw_ints.f k l l) true := by
 have h := ints50_l0 l [] (by simpa using hl)
 refine Ev.congr (fun k => ?_) h
 unfold lw_ints.f
 rw [if_pos rfl]
 rfl
def faultsV (a : ByteArray) : List Int := (rf_Faults.f 1 a).getD []
theorem pick_ {p : Prop} [Decidable p] {A B C D : Option (List Int)} {G : List Int → Prop} (h1 : p → ∃ r, A = some r ∧ B = some r ∧ G r) (h2 : ¬ p → ∃ r, C = some r ∧ D = some r ∧ G r) : ∃ r, (if p then A else C) = some r ∧ (if p then B else D) = some r ∧ G r := by
 by_cases c : p
 ·rw [if_pos c, if_pos c]
  exact h1 c
 ·rw [if_neg c, if_neg c]
  exact h2 c
theorem refFaults_j (a : ByteArray) (b : Bool) : ∃ r : List Int, (∀ k, rf_Faults.j0 (k + 1) a b = some r) ∧ (∀ k, inject_Faults.j0 (k + 1) a b = some r) ∧ r.length ≤ 4 ∧ ∀ x ∈ r, x ≠ 0 := by
 have h : ∃ r : List Int, rf_Faults.j0 (0 + 1) a b = some r ∧ inject_Faults.j0 (0 + 1) a b = some r ∧ (r.length ≤ 4 ∧ ∀ x ∈ r, x ≠ 0) := by
  simp only [rf_Faults.j0, inject_Faults.j0, inject_faults.f, Option.bind_some]
  repeat (refine pick_ (fun _ => ?_) (fun _ => ?_); · exact ⟨_, rfl, rfl, by simp, by simp⟩)
  exact ⟨_, rfl, rfl, by simp, by simp⟩
 obtain ⟨r, h1, h2, h3, h4⟩ := h
 exact ⟨r, fun k => h1, fun k => h2, h3, h4⟩
theorem faults_all (a : ByteArray) : (∀ k, rf_Faults.f (k + 1) a = some (faultsV a)) ∧ (∀ k, inject_Faults.f (k + 1) a = some (faultsV a)) ∧ (faultsV a).length ≤ 4 ∧ ∀ x ∈ faultsV a, x ≠ 0 := by
 unfold faultsV rf_Faults.f inject_Faults.f
 split
 ·obtain ⟨r, h1, h2, h3, h4⟩ := refFaults_j a (a.toList == ([109, 97, 110, 99, 104, 101, 115, 116, 101, 114] : List UInt8))
  have e := h1 0
  rw [Nat.zero_add] at e
  rw [e]
  exact ⟨h1, h2, h3, h4⟩
 ·obtain ⟨r, h1, h2, h3, h4⟩ := refFaults_j a (a.toList == ([115, 108, 105, 112] : List UInt8))
  have e := h1 0
  rw [Nat.zero_add] at e
  rw [e]
  exact ⟨h1, h2, h3, h4⟩
theorem refFaults_ev (a : ByteArray) : Ev (fun k => rf_Faults.f k a) (faultsV a) := Ev.step (f := fun _ => some (faultsV a)) (faults_all a).1 (Ev.now _)
theorem injFaults_ev (a : ByteArray) : Ev (fun k => inject_Faults.f k a) (faultsV a) := Ev.step (f := fun _ => some (faultsV a)) (faults_all a).2.1 (Ev.now _)
def hasL (n : Int) : List Int → Bool
 | [] => false
 | x :: l => if x = n then true else hasL n l
theorem injHas_l0 (n : Int) : ∀ (post pre : List Int), (pre ++ post).length ≤ 140737488351232 → Ev (fun k => inject_has.l0 k n (pre ++ post) ((pre ++ post).length : Int) (pre.length : Int)) (hasL n post)
 | [], pre, hl => by
  refine Ev.step (f := fun _ => some false) (fun k => ?_) (Ev.now _)
  simp only [inject_has.l0]
  rw [if_neg (by simp)]
 | x :: post, pre, hl => by
  have hlt := midj_lt pre post x
  have hn : pre.length ≤ 9223372036854775806 := by
   simp only [List.length_append, List.length_cons] at hl
   omega
  have ih := injHas_l0 n post (pre ++ [x]) (by simpa using hl)
  rw [← mid_snoc pre post x] at ih
  unfold hasL
  by_cases c : x = n
  ·rw [if_pos c]
   refine Ev.step (f := fun _ => some true) (fun k => ?_) (Ev.now _)
   simp only [inject_has.l0]
   rw [if_pos hlt, if_pos (by omega), if_pos hlt, rdj_mid, if_pos c]
  ·rw [if_neg c]
   refine Ev.step (fun k => ?_) ih
   simp only [inject_has.l0]
   rw [if_pos hlt, if_pos (by omega), if_pos hlt, rdj_mid, if_neg c, succ_mid pre x hn]
theorem injHas_ev (a : ByteArray) (n : Int) : Ev (fun k => inject_has.f k a n) (hasL n (faultsV a)) := by
 have h := injHas_l0 n (faultsV a) [] (by have := (faults_all a).2.2.1; simp; omega)
 exact Ev.bind (injFaults_ev a) h
theorem refHas_l0 (n : Int) : ∀ (post pre : List Int), (pre ++ post).length ≤ 140737488351232 → Ev (fun k => rf_has.l0 k (pre ++ post) n (pre.length : Int)) (hasL n post)
 | [], pre, hl => by
  refine Ev.step (f := fun _ => some false) (fun k => ?_) (Ev.now _)
  simp only [rf_has.l0]
  rw [if_neg (by simp)]
 | x :: post, pre, hl => by
  have hlt := midj_lt pre post x
  have hn : pre.length ≤ 9223372036854775806 := by
   simp only [List.length_append, List.length_cons] at hl
   omega
  have ih := refHas_l0 n post (pre ++ [x]) (by simpa using hl)
  rw [← mid_snoc pre post x] at ih
  unfold hasL
  by_cases c : x = n
  ·rw [if_pos c]
   refine Ev.step (f := fun _ => some true) (fun k => ?_) (Ev.now _)
   simp only [rf_has.l0]
   rw [if_pos hlt, if_pos (by omega), rdj_mid, if_pos c]
  ·rw [if_neg c]
   refine Ev.step (fun k => ?_) ih
   simp only [rf_has.l0]
   rw [if_pos hlt, if_pos (by omega), rdj_mid, if_neg c, succ_mid pre x hn]
theorem refHas_ev (a : ByteArray) (n : Int) : Ev (fun k => rf_has.f k (faultsV a) n) (hasL n (faultsV a)) := by
 have h := refHas_l0 n (faultsV a) [] (by have := (faults_all a).2.2.1; simp; omega)
 exact h
theorem can_j1 (a : ByteArray) (b : Bool) (g v x : Int) (d : ByteArray) (f : Int) : ∃ r : Bool, (∀ k, inject_Can.j1 (k + 1) a b g v x d f = some r) ∧ ∀ k, rf_Can.j1 (k + 1) a b g v x d f = some r := by
 simp only [inject_Can.j1, rf_Can.j1]
 repeat' split
 all_goals exact ⟨_, fun _ => rfl, fun _ => rfl⟩
theorem can_j0 (a : ByteArray) (b : Bool) (g v x : Int) (d : ByteArray) (f : Int) : ∃ r : Bool, (∀ k, inject_Can.j0 (k + 2) a b g v x d f = some r) ∧ ∀ k, rf_Can.j0 (k + 2) a b g v x d f = some r := by
 simp only [inject_Can.j0, rf_Can.j0]
 split
 ·exact ⟨_, fun _ => rfl, fun _ => rfl⟩
 ·split
  ·exact can_j1 a _ g v x d f
  ·exact can_j1 a _ g v x d f
theorem ev_two {α : Type} {g : Nat → Option α} {r : α} (h : ∀ k, g (k + 2) = some r) : Ev g r := ⟨2, fun n hn => by
 obtain ⟨m, rfl⟩ : ∃ m, n = m + 2 := ⟨n - 2, by omega⟩
 exact h m⟩
theorem can_ex (a : ByteArray) (g v x : Int) (d : ByteArray) (f n : Int) : ∃ r : Bool, Ev (fun k => inject_Can.f k a g v x d f n) r ∧ Ev (fun k => rf_Can.f k a g v x d f n) r ∧ (r = true → hasL n (faultsV a) = true) := by
 cases e : hasL n (faultsV a) with
 | false =>
  have h1 := injHas_ev a n
  have h2 := refHas_ev a n
  rw [e] at h1 h2
  exact ⟨false, Ev.bind h1 (Ev.congr (fun k => if_neg Bool.false_ne_true) (Ev.now _)), Ev.bind (refFaults_ev a) (Ev.bind h2 (Ev.congr (fun k => if_neg Bool.false_ne_true) (Ev.now _))), fun h => h⟩
 | true =>
  have h1 := injHas_ev a n
  have h2 := refHas_ev a n
  rw [e] at h1 h2
  have key : ∃ r : Bool, Ev (fun k => (if a.toList = ([109, 97, 110, 99, 104, 101, 115, 116, 101, 114] : List UInt8) then (if x ≥ 0 then (some (decide (x < (d.size : Int)))) else (some false)) else (if a.toList = ([115, 116, 117, 102, 102] : List UInt8) then (inject_Can.j0 k a (a.toList == ([115, 116, 117, 102, 102] : List UInt8)) g v x d f) else (if a.toList = ([115, 112, 105] : List UInt8) then (inject_Can.j0 k a (a.toList == ([115, 112, 105] : List UInt8)) g v x d f) else (inject_Can.j0 k a (a.toList == ([115, 108, 105, 112] : List UInt8)) g v x d f))))) r ∧
    Ev (fun k => (if a.toList = ([109, 97, 110, 99, 104, 101, 115, 116, 101, 114] : List UInt8) then (if x ≥ 0 then (some (decide (x < (d.size : Int)))) else (some false)) else (if a.toList = ([115, 116, 117, 102, 102] : List UInt8) then (rf_Can.j0 k a (a.toList == ([115, 116, 117, 102, 102] : List UInt8)) g v x d f) else (if a.toList = ([115, 112, 105] : List UInt8) then (rf_Can.j0 k a (a.toList == ([115, 112, 105] : List UInt8)) g v x d f) else (rf_Can.j0 k a (a.toList == ([115, 108, 105, 112] : List UInt8)) g v x d f))))) r := by
   split
   ·split
    ·exact ⟨_, Ev.now _, Ev.now _⟩
    ·exact ⟨_, Ev.now _, Ev.now _⟩
   ·split
    ·obtain ⟨r, k1, k2⟩ := can_j0 a (a.toList == ([115, 116, 117, 102, 102] : List UInt8)) g v x d f
     exact ⟨r, ev_two k1, ev_two k2⟩
    ·split
     ·obtain ⟨r, k1, k2⟩ := can_j0 a (a.toList == ([115, 112, 105] : List UInt8)) g v x d f
      exact ⟨r, ev_two k1, ev_two k2⟩
     ·obtain ⟨r, k1, k2⟩ := can_j0 a (a.toList == ([115, 108, 105, 112] : List UInt8)) g v x d f
      exact ⟨r, ev_two k1, ev_two k2⟩
  obtain ⟨r, k1, k2⟩ := key
  exact ⟨r, Ev.bind h1 (Ev.congr (fun k => if_pos rfl) k1), Ev.bind (refFaults_ev a) (Ev.bind h2 (Ev.congr (fun k => if_pos rfl) k2)), fun _ => rfl⟩
theorem InjectFaults_pure {a : ByteArray} {g v x : Int} {d : ByteArray} {f n : Int} : ∃ k, lw_InjectFaults.f k a g v x d f n = some true := by
 obtain ⟨r, k1, k2, _⟩ := can_ex a g v x d f n
 have h := ints50_ev (faultsV a) (by have := (faults_all a).2.2.1; omega)
 have hh : Ev (fun k => (inject_Faults.f k a).bind fun t467 => ((rf_Faults.f k a).bind fun t470 => ((lw_ints.f k t467 t470).bind fun t473 => (if t473 = true then ((inject_Can.f k a g v x d f n).bind fun t474 => ((rf_Can.f k a g v x d f n).bind fun t475 => (if (t474 == t475) = true then ((lw_awake.f k).bind fun t476 => (some t476)) else (none)))) else (none))))) true :=
  Ev.bind (injFaults_ev a) (Ev.bind (refFaults_ev a) (Ev.bind h (Ev.congr (fun k => if_pos rfl) (Ev.bind k1 (Ev.bind k2 (Ev.congr (fun k => if_pos (by simp)) awake50_then))))))
 exact Ev.rounds hh
end Go.Proofs.Ytkcekcnnjheamaa
