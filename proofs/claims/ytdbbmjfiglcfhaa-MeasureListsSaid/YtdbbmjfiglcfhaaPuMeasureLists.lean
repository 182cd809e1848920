/- The law MeasureLists as a plain statement on numbers and lists: with enough rounds it answers true; conditions: each number is one of its kind, no list or string is longer than its memory allows. -/
import Derived.Laws.BitsAllLaws
import Derived.WalkKit
import Derived.Test.YtdbbmjfiglcfhaaWMore
import Derived.Test.YtdbbmjfiglcfhaaQx0
import Derived.Test.YtdbbmjfiglcfhaaQx10
import Derived.Test.YtdbbmjfiglcfhaaQx11
import Derived.Test.YtdbbmjfiglcfhaaQx12
import Derived.Test.YtdbbmjfiglcfhaaQx15
import Derived.Test.YtdbbmjfiglcfhaaQx16
import Derived.Test.YtdbbmjfiglcfhaaQx20
import Derived.Test.YtdbbmjfiglcfhaaQx21
import Derived.Test.YtdbbmjfiglcfhaaQx22
import Derived.Test.YtdbbmjfiglcfhaaQx30
import Derived.Test.YtdbbmjfiglcfhaaQx31
import Derived.Test.YtdbbmjfiglcfhaaQx32
import Derived.Test.YtdbbmjfiglcfhaaQx33
import Derived.Test.YtdbbmjfiglcfhaaQx34
import Derived.Test.YtdbbmjfiglcfhaaQx35
import Derived.Test.YtdbbmjfiglcfhaaQx36
import Derived.Test.YtdbbmjfiglcfhaaQx37
namespace Go.Proofs.Ytdbbmjfiglcfhaa
open Go Go.RowKit Go.Proofs.YtdbbmjfiglcfhaaW.PrintWords Go.Proofs.YtdbbmjfiglcfhaaW.PrintLast Go.Proofs.Ytdbbmjfiglcfhaa.Q
set_option linter.unusedVariables false
theorem w64 {x : Int} (h0 : -9223372036854775808 ≤ x) (h1 : x ≤ 9223372036854775807) : wrap64 x = x := by
  unfold wrap64
  omega
theorem wf64 {x : Int} (h : (Lit.int .i64 x).wf = true) : -9223372036854775808 ≤ x ∧ x ≤ 9223372036854775807 := by
  simp [Lit.wf, IntKind.min, IntKind.max, IntKind.bits, IntKind.signed] at h
  omega
theorem succ_mid {α : Type} (pre : List α) (x : α) (h : pre.length ≤ 9223372036854775806) : wrap64 ((pre.length : Int) + 1) = ((pre ++ [x]).length : Int) := by
  rw [w64 (by omega) (by omega)]
  simp
theorem mid_snoc {α : Type} (pre post : List α) (x : α) : pre ++ x :: post = (pre ++ [x]) ++ post := by simp
def RunsOk (l : List S50) : Prop := ∀ x ∈ l, (x.f0 = 0 ∨ x.f0 = 1) ∧ 1 ≤ x.f1
theorem RunsOk.cons {x : S50} {l : List S50} (h : RunsOk (x :: l)) : ((x.f0 = 0 ∨ x.f0 = 1) ∧ 1 ≤ x.f1) ∧ RunsOk l := ⟨h x (by simp), fun y hy => h y (by simp [hy])⟩
theorem rdG_mid (pre post : List S36) (x : S36) : rd_T36 (pre ++ x :: post) (pre.length : Int) = x := by simp [rd_T36, List.getD]
theorem midg_lt {α : Type} (pre post : List α) (x : α) : (pre.length : Int) < ((pre ++ x :: post).length : Int) := by
  simp only [List.length_append, List.length_cons]
  omega
theorem ratio_common_ev : ∀ (b a : Nat), Ev (fun k => ratio_common.f k (a : Int) (b : Int)) ((Nat.gcd a b : Nat) : Int) := by
  intro b
  induction b using Nat.strongRecOn with
  | _ b ih =>
    intro a
    refine Ev.congr (f := fun k => ratio_common.l0 k (a : Int) (b : Int)) (fun k => rfl) ?_
    by_cases c : b = 0
    · subst c
      rw [Nat.gcd_zero_right]
      refine Ev.step (f := fun _ => some (a : Int)) (fun k => ?_) (Ev.now _)
      simp only [ratio_common.l0]
      rw [if_pos (by omega)]
    · have h := ih (a % b) (Nat.mod_lt _ (by omega)) b
      rw [show Nat.gcd a b = Nat.gcd b (a % b) by rw [Nat.gcd_comm a b, Nat.gcd_rec b a, Nat.gcd_comm]]
      refine Ev.step (fun k => ?_) h
      simp only [ratio_common.l0]
      rw [if_neg (by omega)]
      rfl
theorem ref_gcd_ev : ∀ (b a : Nat), Ev (fun k => signalbenchref01_gcd.f k (a : Int) (b : Int)) ((Nat.gcd a b : Nat) : Int) := by
  intro b
  induction b using Nat.strongRecOn with
  | _ b ih =>
    intro a
    by_cases c : b = 0
    · subst c
      rw [Nat.gcd_zero_right]
      refine Ev.step (f := fun _ => some (a : Int)) (fun k => ?_) (Ev.now _)
      simp only [signalbenchref01_gcd.f]
      rw [if_pos (by omega)]
    · have h := ih (a % b) (Nat.mod_lt _ (by omega)) b
      rw [show Nat.gcd a b = Nat.gcd b (a % b) by rw [Nat.gcd_comm a b, Nat.gcd_rec b a, Nat.gcd_comm]]
      refine Ev.step (f := fun k => (signalbenchref01_gcd.f k (b : Int) (((a % b : Nat)) : Int)).bind fun t => some t) (fun k => ?_) (Ev.bind h (Ev.now _))
      simp only [signalbenchref01_gcd.f]
      rw [if_neg (by omega)]
      rfl
theorem size_abs {n : Int} (h : (Lit.int .i64 n).wf = true) : (if n < 0 then (some (IntKind.u64.wrap ((IntKind.u64.wrap (wrap64 (-(wrap64 (n + 1))))) + 1))) else (some (IntKind.u64.wrap n))) = some ((n.natAbs : Nat) : Int) := by
  have hw := wf64 h
  by_cases c : n < 0
  · rw [if_pos c, w64 (x := n + 1) (by omega) (by omega), w64 (by omega) (by omega), IntKind.wrap_u64, IntKind.wrap_u64]
    congr 1
    omega
  · rw [if_neg c, IntKind.wrap_u64]
    congr 1
    omega
def mkV (n d : Int) : Int × Int × Int :=
  if d = 0 then (0, 0, 1) else if n = 0 then (0, 1, 0) else
    if 1073741824 < n.natAbs / Nat.gcd n.natAbs d.natAbs ∨ 1073741824 < d.natAbs / Nat.gcd n.natAbs d.natAbs then (0, 0, 3)
    else ((if (decide (n < 0) != decide (d < 0)) = true then -((n.natAbs / Nat.gcd n.natAbs d.natAbs : Nat) : Int) else ((n.natAbs / Nat.gcd n.natAbs d.natAbs : Nat) : Int)), ((d.natAbs / Nat.gcd n.natAbs d.natAbs : Nat) : Int), 0)
theorem tdiv_nat (a g : Nat) (h : a ≤ 9223372036854775808) : IntKind.u64.wrap (Int.tdiv (a : Int) (g : Int)) = ((a / g : Nat) : Int) := by
  have h1 : Int.tdiv (a : Int) (g : Int) = ((a / g : Nat) : Int) := rfl
  have h2 : a / g ≤ a := Nat.div_le_self a g
  rw [h1, IntKind.wrap_u64]
  generalize a / g = q at h2
  omega
theorem abs_le {n : Int} (h : (Lit.int .i64 n).wf = true) : n.natAbs ≤ 9223372036854775808 := by
  have := wf64 h
  omega
theorem ratio_Make_ev {n d : Int} (hn : (Lit.int .i64 n).wf = true) (hd : (Lit.int .i64 d).wf = true) : Ev (fun k => ratio_Make.f k n d) (mkV n d) := by
  unfold mkV
  by_cases c : d = 0
  · rw [if_pos c]
    refine Ev.congr (fun k => ?_) (Ev.now _)
    unfold ratio_Make.f
    rw [if_pos c]
  · rw [if_neg c]
    by_cases c1 : n = 0
    · rw [if_pos c1]
      refine Ev.congr (fun k => ?_) (Ev.now _)
      unfold ratio_Make.f
      rw [if_neg c, if_pos c1]
      rfl
    · rw [if_neg c1]
      have hg : 0 < Nat.gcd n.natAbs d.natAbs := Nat.gcd_pos_of_pos_left _ (by omega)
      have e1 : ratio_size.f n = some ((n.natAbs : Nat) : Int) := size_abs hn
      have e2 : ratio_size.f d = some ((d.natAbs : Nat) : Int) := size_abs hd
      refine Ev.congr (f := fun k => (ratio_common.f k ((n.natAbs : Nat) : Int) ((d.natAbs : Nat) : Int)).bind fun t148 => (if t148 = 0 then (none) else (if (IntKind.u64.wrap (Int.tdiv ((n.natAbs : Nat) : Int) t148)) > 1073741824 then (ratio_Make.j0 k n d (IntKind.u64.wrap (Int.tdiv ((n.natAbs : Nat) : Int) t148)) (IntKind.u64.wrap (Int.tdiv ((d.natAbs : Nat) : Int) t148)) true) else (ratio_Make.j0 k n d (IntKind.u64.wrap (Int.tdiv ((n.natAbs : Nat) : Int) t148)) (IntKind.u64.wrap (Int.tdiv ((d.natAbs : Nat) : Int) t148)) (decide ((IntKind.u64.wrap (Int.tdiv ((d.natAbs : Nat) : Int) t148)) > 1073741824)))))) (fun k => ?_) (Ev.bind (ratio_common_ev d.natAbs n.natAbs) ?_)
      · unfold ratio_Make.f
        rw [if_neg c, if_neg c1, e1, e2]
        rfl
      · simp only [tdiv_nat _ _ (abs_le hn), tdiv_nat _ _ (abs_le hd)]
        refine Ev.congr (fun k => if_neg (by omega)) ?_
        have ha : n.natAbs / Nat.gcd n.natAbs d.natAbs ≤ n.natAbs := Nat.div_le_self _ _
        have hb : d.natAbs / Nat.gcd n.natAbs d.natAbs ≤ d.natAbs := Nat.div_le_self _ _
        generalize n.natAbs / Nat.gcd n.natAbs d.natAbs = a at ha
        generalize d.natAbs / Nat.gcd n.natAbs d.natAbs = b at hb
        have stop : Ev (fun k => ratio_Make.j0 k n d (a : Int) (b : Int) true) (0, 0, 3) := Ev.step (f := fun _ => some (0, 0, 3)) (fun k => by
          simp only [ratio_Make.j0]
          rw [if_pos trivial]) (Ev.now _)
        by_cases c2 : 1073741824 < a
        · rw [if_pos (Or.inl c2)]
          exact Ev.congr (fun k => if_pos (by omega)) stop
        · refine Ev.congr (fun k => if_neg (by omega)) ?_
          by_cases c3 : 1073741824 < b
          · rw [if_pos (Or.inr c3), decide_eq_true (by omega)]
            exact stop
          · rw [if_neg (by omega), decide_eq_false (by omega)]
            refine Ev.step (f := fun _ => some (if (decide (n < 0) != decide (d < 0)) = true then -(a : Int) else (a : Int), (b : Int), 0)) (fun k => ?_) (Ev.now _)
            simp only [ratio_Make.j0]
            rw [if_neg (by simp), w64 (x := (a : Int)) (by omega) (by omega), w64 (x := (b : Int)) (by omega) (by omega), w64 (x := -(a : Int)) (by omega) (by omega)]
            split <;> rfl
theorem ref_Make_ev {n d : Int} (hn : (Lit.int .i64 n).wf = true) (hd : (Lit.int .i64 d).wf = true) : Ev (fun k => signalbenchref01_Make.f k n d) (mkV n d) := by
  unfold mkV
  by_cases c : d = 0
  · rw [if_pos c]
    refine Ev.congr (fun k => ?_) (Ev.now _)
    unfold signalbenchref01_Make.f
    rw [if_pos c]
  · rw [if_neg c]
    have hg : 0 < Nat.gcd n.natAbs d.natAbs := Nat.gcd_pos_of_pos_right _ (by omega)
    have e1 : signalbenchref01_size.f n = some ((n.natAbs : Nat) : Int) := size_abs hn
    have e2 : signalbenchref01_size.f d = some ((d.natAbs : Nat) : Int) := size_abs hd
    refine Ev.congr (f := fun k => (signalbenchref01_gcd.f k ((n.natAbs : Nat) : Int) ((d.natAbs : Nat) : Int)).bind fun t223 => (if t223 = 0 then (none) else (if (IntKind.u64.wrap (Int.tdiv ((n.natAbs : Nat) : Int) t223)) > 1073741824 then (signalbenchref01_Make.j0 k n d ((n.natAbs : Nat) : Int) ((d.natAbs : Nat) : Int) t223 true) else (signalbenchref01_Make.j0 k n d ((n.natAbs : Nat) : Int) ((d.natAbs : Nat) : Int) t223 (decide ((IntKind.u64.wrap (Int.tdiv ((d.natAbs : Nat) : Int) t223)) > 1073741824)))))) (fun k => ?_) (Ev.bind (ref_gcd_ev d.natAbs n.natAbs) ?_)
    · unfold signalbenchref01_Make.f
      rw [if_neg c, e1, e2]
      rfl
    · simp only [tdiv_nat _ _ (abs_le hn), tdiv_nat _ _ (abs_le hd)]
      refine Ev.congr (fun k => if_neg (by omega)) ?_
      have stop : Ev (fun k => signalbenchref01_Make.j0 k n d ((n.natAbs : Nat) : Int) ((d.natAbs : Nat) : Int) ((Nat.gcd n.natAbs d.natAbs : Nat) : Int) true) (0, 0, 3) := Ev.step (f := fun _ => some (0, 0, 3)) (fun k => by
        simp only [signalbenchref01_Make.j0]
        rw [if_pos trivial]) (Ev.now _)
      have go : ¬ (1073741824 < n.natAbs / Nat.gcd n.natAbs d.natAbs) → ¬ (1073741824 < d.natAbs / Nat.gcd n.natAbs d.natAbs) → Ev (fun k => signalbenchref01_Make.j0 k n d ((n.natAbs : Nat) : Int) ((d.natAbs : Nat) : Int) ((Nat.gcd n.natAbs d.natAbs : Nat) : Int) false) (if (decide (n < 0) != decide (d < 0)) = true then -((n.natAbs / Nat.gcd n.natAbs d.natAbs : Nat) : Int) else ((n.natAbs / Nat.gcd n.natAbs d.natAbs : Nat) : Int), ((d.natAbs / Nat.gcd n.natAbs d.natAbs : Nat) : Int), 0) := by
        intro c2 c3
        refine Ev.step (f := fun _ => some (if (decide (n < 0) != decide (d < 0)) = true then -((n.natAbs / Nat.gcd n.natAbs d.natAbs : Nat) : Int) else ((n.natAbs / Nat.gcd n.natAbs d.natAbs : Nat) : Int), ((d.natAbs / Nat.gcd n.natAbs d.natAbs : Nat) : Int), 0)) (fun k => ?_) (Ev.now _)
        simp only [signalbenchref01_Make.j0]
        rw [if_neg (by simp), if_neg (by omega), tdiv_nat _ _ (abs_le hn), tdiv_nat _ _ (abs_le hd)]
        generalize n.natAbs / Nat.gcd n.natAbs d.natAbs = a at c2
        generalize d.natAbs / Nat.gcd n.natAbs d.natAbs = b at c3
        rw [w64 (x := (a : Int)) (by omega) (by omega), w64 (x := (b : Int)) (by omega) (by omega), w64 (x := -(a : Int)) (by omega) (by omega)]
        split <;> rfl
      by_cases c1 : n = 0
      · rw [if_pos c1]
        have eb : Nat.gcd n.natAbs d.natAbs = d.natAbs := by
          rw [c1]
          exact Nat.gcd_zero_left _
        have ea : n.natAbs / Nat.gcd n.natAbs d.natAbs = 0 := by
          rw [c1]
          simp
        have eb2 : d.natAbs / Nat.gcd n.natAbs d.natAbs = 1 := by
          rw [eb]
          exact Nat.div_self (by omega)
        have h := go (by omega) (by omega)
        rw [ea, eb2] at h
        refine Ev.congr (fun k => if_neg (by omega)) ?_
        rw [eb2, decide_eq_false (by omega)]
        have e3 : ((if (decide (n < 0) != decide (d < 0)) = true then -((0 : Nat) : Int) else ((0 : Nat) : Int), ((1 : Nat) : Int), (0 : Int)) : Int × Int × Int) = (0, 1, 0) := by
          split <;> rfl
        rw [e3] at h
        exact h
      · rw [if_neg c1]
        by_cases c2 : 1073741824 < n.natAbs / Nat.gcd n.natAbs d.natAbs
        · rw [if_pos (Or.inl c2)]
          exact Ev.congr (fun k => if_pos (by omega)) stop
        · refine Ev.congr (fun k => if_neg (by omega)) ?_
          by_cases c3 : 1073741824 < d.natAbs / Nat.gcd n.natAbs d.natAbs
          · rw [if_pos (Or.inr c3), decide_eq_true (by omega)]
            exact stop
          · rw [if_neg (fun h => h.elim c2 c3), decide_eq_false (by omega)]
            exact go c2 c3
theorem wf_small {n : Int} (h0 : -4611686018427387904 ≤ n) (h1 : n ≤ 4611686018427387904) : (Lit.int .i64 n).wf = true := by
  simp [Lit.wf, IntKind.min, IntKind.max, IntKind.bits, IntKind.signed]
  omega
theorem lives_ev : Ev (fun k => signalbenchlaw48_lives.f k) true := Ev.of (k := 40) (fun k => signalbenchlaw48_lives.mono k) (by decide +kernel)
def wst (least : Bool) (b : Int × Int) : List S36 → Int × Int
  | [] => b
  | g :: l => if (if least = true then g.f1 < b.2 else g.f1 > b.2) then wst least (g.f0, g.f1) l else wst least b l
def worstV (l : List S36) (least : Bool) : Int × Int × Bool :=
  match l with
  | [] => (0, 0, false)
  | g :: r => ((wst least (g.f0, g.f1) r).1, (wst least (g.f0, g.f1) r).2, true)
theorem measure_Worst_l0 (least : Bool) : ∀ (post pre : List S36) (b : Int × Int), (pre ++ post).length ≤ 140737488351232 →
    Ev (fun k => measure_Worst.l0 k least (pre ++ post) ((pre ++ post).length : Int) (pre.length : Int) b.1 b.2) ((wst least b post).1, (wst least b post).2, true)
  | [], pre, b, hl => by
    refine Ev.step (f := fun _ => some (b.1, b.2, true)) (fun k => ?_) (Ev.now _)
    simp only [measure_Worst.l0]
    rw [if_neg (by simp)]
  | g :: post, pre, b, hl => by
    have hlt := midg_lt pre post g
    have hn : pre.length ≤ 9223372036854775806 := by
      simp only [List.length_append, List.length_cons] at hl
      omega
    have ih := fun b' => measure_Worst_l0 least post (pre ++ [g]) b' (by simpa using hl)
    rw [← mid_snoc pre post g] at ih
    unfold wst
    cases least with
    | true =>
      simp only [if_true]
      by_cases c : g.f1 < b.2
      · rw [if_pos c]
        refine Ev.step (fun k => ?_) (ih (g.f0, g.f1))
        simp only [measure_Worst.l0]
        rw [rdG_mid, if_pos hlt, if_pos (by omega), if_pos hlt, if_pos trivial, if_pos c, succ_mid pre g hn]
      · rw [if_neg c]
        refine Ev.step (fun k => ?_) (ih b)
        simp only [measure_Worst.l0]
        rw [rdG_mid, if_pos hlt, if_pos (by omega), if_pos hlt, if_pos trivial, if_neg c, succ_mid pre g hn]
    | false =>
      simp only [Bool.false_eq_true, if_false]
      by_cases c : g.f1 > b.2
      · rw [if_pos c]
        refine Ev.step (fun k => ?_) (ih (g.f0, g.f1))
        simp only [measure_Worst.l0]
        rw [rdG_mid, if_pos hlt, if_pos (by omega), if_pos hlt, if_neg (by simp), if_pos c, succ_mid pre g hn]
      · rw [if_neg c]
        refine Ev.step (fun k => ?_) (ih b)
        simp only [measure_Worst.l0]
        rw [rdG_mid, if_pos hlt, if_pos (by omega), if_pos hlt, if_neg (by simp), if_neg c, succ_mid pre g hn]
theorem rdG_zero (g : S36) (l : List S36) : rd_T36 (g :: l) 0 = g := by
  have e := rdG_mid [] l g
  simp only [List.nil_append, List.length_nil] at e
  exact e
theorem wst_self (least : Bool) (g : S36) (r : List S36) : wst least (g.f0, g.f1) (g :: r) = wst least (g.f0, g.f1) r := by
  rw [wst, if_neg]
  cases least <;> simp
theorem measure_Worst_ev {l : List S36} {least : Bool} (hl : l.length ≤ 140737488351232) : Ev (fun k => measure_Worst.f k l least) (worstV l least) := by
  cases l with
  | nil => exact Ev.congr (fun k => rfl) (Ev.now _)
  | cons g r =>
    have h := measure_Worst_l0 least (g :: r) [] (g.f0, g.f1) (by simpa using hl)
    rw [wst_self] at h
    refine Ev.congr (fun k => ?_) h
    unfold measure_Worst.f
    rw [if_neg (by simp only [List.length_cons]; omega), if_pos (by simp only [List.length_cons]; omega), rdG_zero]
    rfl
theorem ref_Worst_l0 (least : Bool) : ∀ (post pre : List S36) (b : Int × Int), (pre ++ post).length ≤ 140737488351232 →
    Ev (fun k => signalbenchref48_Worst.l0 k (pre ++ post) least (pre.length : Int) b.1 b.2) ((wst least b post).1, (wst least b post).2, true)
  | [], pre, b, hl => by
    refine Ev.step (f := fun _ => some (b.1, b.2, true)) (fun k => ?_) (Ev.now _)
    simp only [signalbenchref48_Worst.l0]
    rw [if_neg (by simp)]
  | g :: post, pre, b, hl => by
    have hlt := midg_lt pre post g
    have hn : pre.length ≤ 9223372036854775806 := by
      simp only [List.length_append, List.length_cons] at hl
      omega
    have ih := fun b' => ref_Worst_l0 least post (pre ++ [g]) b' (by simpa using hl)
    rw [← mid_snoc pre post g] at ih
    unfold wst
    cases least with
    | true =>
      simp only [if_true]
      by_cases c : g.f1 < b.2
      · rw [if_pos c]
        refine Ev.step (fun k => ?_) (ih (g.f0, g.f1))
        simp only [signalbenchref48_Worst.l0]
        rw [rdG_mid, if_pos hlt, if_pos trivial, if_pos (by omega), if_pos c, succ_mid pre g hn]
      · rw [if_neg c]
        refine Ev.step (fun k => ?_) (ih b)
        simp only [signalbenchref48_Worst.l0]
        rw [rdG_mid, if_pos hlt, if_pos trivial, if_pos (by omega), if_neg c, succ_mid pre g hn]
    | false =>
      simp only [Bool.false_eq_true, if_false]
      by_cases c : g.f1 > b.2
      · rw [if_pos c]
        refine Ev.step (fun k => ?_) (ih (g.f0, g.f1))
        simp only [signalbenchref48_Worst.l0]
        rw [rdG_mid, if_pos hlt, if_neg (by simp), if_pos (by omega), if_pos c, succ_mid pre g hn]
      · rw [if_neg c]
        refine Ev.step (fun k => ?_) (ih b)
        simp only [signalbenchref48_Worst.l0]
        rw [rdG_mid, if_pos hlt, if_neg (by simp), if_pos (by omega), if_neg c, succ_mid pre g hn]
theorem ref_Worst_ev {l : List S36} {least : Bool} (hl : l.length ≤ 140737488351232) : Ev (fun k => signalbenchref48_Worst.f k l least) (worstV l least) := by
  cases l with
  | nil => exact Ev.congr (fun k => rfl) (Ev.now _)
  | cons g r =>
    have h := ref_Worst_l0 least r [g] (g.f0, g.f1) (by simpa using hl)
    refine Ev.congr (fun k => ?_) h
    unfold signalbenchref48_Worst.f
    rw [if_neg (by simp only [List.length_cons]; omega), if_pos (by simp only [List.length_cons]; omega), rdG_zero]
    rfl
/-- The sum of ticks that are all in range, or the error. -/
def sumF (s : Int) : List S36 → Int × Int
  | [] => (s, 0)
  | g :: l => if g.f1 < 0 ∨ g.f1 > 1099511627776 then (0, 2) else sumF (s + g.f1) l
def sumV (l : List S36) : Int × Int := if l.length = 0 then (0, 8) else if 262144 < l.length then (0, 6) else sumF 0 l
theorem measure_sum_l0 : ∀ (post pre : List S36) (s : Int), 0 ≤ s → s + 1099511627776 * post.length ≤ 1152921504606846976 → (pre ++ post).length ≤ 262144 →
    Ev (fun k => measure_sum.l0 k s (pre ++ post) ((pre ++ post).length : Int) (pre.length : Int)) (sumF s post)
  | [], pre, s, h0, h1, hl => by
    refine Ev.step (f := fun _ => some (s, 0)) (fun k => ?_) (Ev.now _)
    simp only [measure_sum.l0]
    rw [if_neg (by simp)]
  | g :: post, pre, s, h0, h1, hl => by
    simp only [List.length_cons] at h1
    have hlt := midg_lt pre post g
    have hn : pre.length ≤ 9223372036854775806 := by
      simp only [List.length_append, List.length_cons] at hl
      omega
    rw [sumF]
    by_cases c : g.f1 < 0 ∨ g.f1 > 1099511627776
    · rw [if_pos c]
      refine Ev.step (f := fun _ => some (0, 2)) (fun k => ?_) (Ev.now _)
      simp only [measure_sum.l0]
      rw [rdG_mid, if_pos hlt, if_pos (by omega), if_pos hlt]
      by_cases c1 : g.f1 < 0
      · rw [if_pos c1]
      · rw [if_neg c1, if_pos (by omega)]
    · rw [if_neg c]
      have ih := measure_sum_l0 post (pre ++ [g]) (s + g.f1) (by omega) (by omega) (by simpa using hl)
      rw [← mid_snoc pre post g] at ih
      refine Ev.step (fun k => ?_) ih
      simp only [measure_sum.l0]
      rw [rdG_mid, if_pos hlt, if_pos (by omega), if_pos hlt, if_neg (by omega), if_neg (by omega), w64 (x := s + g.f1) (by omega) (by omega), succ_mid pre g hn]
theorem measure_sum_ev (l : List S36) : Ev (fun k => measure_sum.f k l) (sumV l) := by
  unfold sumV
  by_cases c : l.length = 0
  · rw [if_pos c]
    refine Ev.congr (fun k => ?_) (Ev.now _)
    unfold measure_sum.f
    rw [if_pos (by omega)]
  · rw [if_neg c]
    by_cases c1 : 262144 < l.length
    · rw [if_pos c1]
      refine Ev.congr (fun k => ?_) (Ev.now _)
      unfold measure_sum.f
      rw [if_neg (by omega), if_pos (by omega)]
    · rw [if_neg c1]
      refine Ev.congr (fun k => ?_) (measure_sum_l0 l [] 0 (by omega) (by omega) (by simp; omega))
      unfold measure_sum.f
      rw [if_neg (by omega), if_neg (by omega)]
      rfl
theorem ref_sum_l0 : ∀ (post pre : List S36) (s : Int), 0 ≤ s → s + 1099511627776 * post.length ≤ 1152921504606846976 → (pre ++ post).length ≤ 262144 →
    Ev (fun k => signalbenchref48_sum.l0 k (pre ++ post) s (pre.length : Int)) (sumF s post)
  | [], pre, s, h0, h1, hl => by
    refine Ev.step (f := fun _ => some (s, 0)) (fun k => ?_) (Ev.now _)
    simp only [signalbenchref48_sum.l0]
    rw [if_neg (by simp)]
  | g :: post, pre, s, h0, h1, hl => by
    simp only [List.length_cons] at h1
    have hlt := midg_lt pre post g
    have hn : pre.length ≤ 9223372036854775806 := by
      simp only [List.length_append, List.length_cons] at hl
      omega
    rw [sumF]
    by_cases c : g.f1 < 0 ∨ g.f1 > 1099511627776
    · rw [if_pos c]
      refine Ev.step (f := fun _ => some (0, 2)) (fun k => ?_) (Ev.now _)
      simp only [signalbenchref48_sum.l0]
      rw [rdG_mid, if_pos hlt, if_pos (by omega)]
      by_cases c1 : g.f1 < 0
      · rw [if_pos c1]
      · rw [if_neg c1, if_pos (by omega)]
    · rw [if_neg c]
      have ih := ref_sum_l0 post (pre ++ [g]) (s + g.f1) (by omega) (by omega) (by simpa using hl)
      rw [← mid_snoc pre post g] at ih
      refine Ev.step (fun k => ?_) ih
      simp only [signalbenchref48_sum.l0]
      rw [rdG_mid, if_pos hlt, if_pos (by omega), if_neg (by omega), if_neg (by omega), w64 (x := s + g.f1) (by omega) (by omega), succ_mid pre g hn]
theorem ref_sum_ev (l : List S36) : Ev (fun k => signalbenchref48_sum.f k l) (sumV l) := by
  unfold sumV
  by_cases c : l.length = 0
  · rw [if_pos c]
    refine Ev.congr (fun k => ?_) (Ev.now _)
    unfold signalbenchref48_sum.f
    rw [if_pos (by omega)]
  · rw [if_neg c]
    by_cases c1 : 262144 < l.length
    · rw [if_pos c1]
      refine Ev.congr (fun k => ?_) (Ev.now _)
      unfold signalbenchref48_sum.f
      rw [if_neg (by omega), if_pos (by omega)]
    · rw [if_neg c1]
      refine Ev.congr (fun k => ?_) (ref_sum_l0 l [] 0 (by omega) (by omega) (by simp; omega))
      unfold signalbenchref48_sum.f
      rw [if_neg (by omega), if_neg (by omega)]
      rfl
theorem sumF_ok : ∀ {l : List S36} {s : Int}, (sumF s l).2 = 0 → (∀ g ∈ l, 0 ≤ g.f1 ∧ g.f1 ≤ 1099511627776) ∧ s ≤ (sumF s l).1 ∧ (sumF s l).1 ≤ s + 1099511627776 * l.length
  | [], s, h => by simp [sumF]
  | g :: l, s, h => by
    rw [sumF] at h ⊢
    by_cases c : g.f1 < 0 ∨ g.f1 > 1099511627776
    · rw [if_pos c] at h
      simp at h
    · rw [if_neg c] at h ⊢
      have ih := sumF_ok h
      simp only [List.length_cons]
      refine ⟨fun q hq => ?_, by omega, by omega⟩
      rcases List.mem_cons.1 hq with rfl | hq
      · omega
      · exact ih.1 q hq
def meanV (l : List S36) : Int × Int × Int := if (sumV l).2 = 0 then mkV (sumV l).1 (l.length : Int) else (0, 0, (sumV l).2)
theorem sumV_ok {l : List S36} (h : (sumV l).2 = 0) : l.length ≤ 262144 ∧ 0 < l.length ∧ (∀ g ∈ l, 0 ≤ g.f1 ∧ g.f1 ≤ 1099511627776) ∧ 0 ≤ (sumV l).1 ∧ (sumV l).1 ≤ 1099511627776 * l.length := by
  unfold sumV at h ⊢
  by_cases c : l.length = 0
  · rw [if_pos c] at h
    simp at h
  · rw [if_neg c] at h ⊢
    by_cases c1 : 262144 < l.length
    · rw [if_pos c1] at h
      simp at h
    · rw [if_neg c1] at h ⊢
      have := sumF_ok h
      exact ⟨by omega, by omega, this.1, by omega, by omega⟩
theorem measure_Mean_ev (l : List S36) : Ev (fun k => measure_Mean.f k l) (meanV l) := by
  unfold meanV
  refine Ev.bind (measure_sum_ev l) ?_
  by_cases c : (sumV l).2 = 0
  · simp only [if_pos c]
    have h := sumV_ok c
    exact Ev.bind (ratio_Make_ev (wf_small (by omega) (by omega)) (wf_small (by omega) (by omega))) (Ev.now _)
  · simp only [if_neg c]
    exact Ev.now _
theorem ref_Mean_ev (l : List S36) : Ev (fun k => signalbenchref48_Mean.f k l) (meanV l) := by
  unfold meanV
  refine Ev.bind (ref_sum_ev l) ?_
  by_cases c : (sumV l).2 = 0
  · simp only [if_pos c]
    have h := sumV_ok c
    exact Ev.bind (ref_Make_ev (wf_small (by omega) (by omega)) (wf_small (by omega) (by omega))) (Ev.now _)
  · simp only [if_neg c]
    exact Ev.now _
/-- The greatest distance of n times a tick from s. -/
def jitF (n s most : Int) : List S36 → Int
  | [] => most
  | g :: l => jitF n s (if most < (if g.f1 * n - s < 0 then s - g.f1 * n else g.f1 * n - s) then (if g.f1 * n - s < 0 then s - g.f1 * n else g.f1 * n - s) else most) l
def jitV (l : List S36) : Int × Int × Int := if (sumV l).2 = 0 then mkV (jitF (l.length : Int) (sumV l).1 0 l) (l.length : Int) else (0, 0, (sumV l).2)
theorem mul_bound {a n : Int} (h0 : 0 ≤ a) (h1 : a ≤ 1099511627776) (h2 : 0 ≤ n) (h3 : n ≤ 2000) : 0 ≤ a * n ∧ a * n ≤ 2199023255552000 := by
  refine ⟨Int.mul_nonneg h0 h2, ?_⟩
  have : a * n ≤ 1099511627776 * 2000 := Int.mul_le_mul h1 h3 h2 (by omega)
  omega
theorem measure_Jitter_l0 (L : List S36) (s : Int) (hL : L.length ≤ 2000) (hL0 : 0 < L.length) (hs0 : 0 ≤ s) (hs1 : s ≤ 2199023255552000) : ∀ (post pre : List S36) (most : Int), (∀ g ∈ post, 0 ≤ g.f1 ∧ g.f1 ≤ 1099511627776) → 0 ≤ most → most ≤ 4398046511104000 → (pre ++ post).length ≤ 2000 →
    Ev (fun k => measure_Jitter.l0 k L s most (pre ++ post) ((pre ++ post).length : Int) (pre.length : Int)) (mkV (jitF (L.length : Int) s most post) (L.length : Int))
  | [], pre, most, hb, h0, h1, hl => by
    rw [jitF]
    refine Ev.step (f := fun k => (ratio_Make.f k most (L.length : Int)).bind fun bt => (some (bt.1, bt.2.1, bt.2.2))) (fun k => ?_) (Ev.bind (ratio_Make_ev (wf_small (by omega) (by omega)) (wf_small (by omega) (by omega))) (Ev.now _))
    simp only [measure_Jitter.l0]
    rw [if_neg (by simp)]
  | g :: post, pre, most, hb, h0, h1, hl => by
    have hg := hb g (by simp)
    have hm := mul_bound hg.1 hg.2 (n := (L.length : Int)) (by omega) (by omega)
    have hlt := midg_lt pre post g
    have hn : pre.length ≤ 9223372036854775806 := by
      simp only [List.length_append, List.length_cons] at hl
      omega
    have ih := fun m h0 h1 => measure_Jitter_l0 L s hL hL0 hs0 hs1 post (pre ++ [g]) m (fun q hq => hb q (List.mem_cons_of_mem _ hq)) h0 h1 (by simpa using hl)
    rw [← mid_snoc pre post g] at ih
    rw [jitF]
    refine Ev.step (fun k => ?_) (ih _ ?_ ?_)
    · simp only [measure_Jitter.l0]
      rw [rdG_mid, if_pos hlt, if_pos (by omega), if_pos hlt, w64 (x := g.f1 * (L.length : Int)) (by omega) (by omega), w64 (x := g.f1 * (L.length : Int) - s) (by omega) (by omega), w64 (x := -(g.f1 * (L.length : Int) - s)) (by omega) (by omega), succ_mid pre g hn]
      generalize g.f1 * (L.length : Int) = z at hm
      have e : mx (mx most (z - s)) (-(z - s)) = if most < (if z - s < 0 then s - z else z - s) then (if z - s < 0 then s - z else z - s) else most := by
        unfold mx
        by_cases c2 : z - s < 0
        · have e1 : (if z - s < 0 then s - z else z - s) = s - z := if_pos c2
          have e2 : (if most < z - s then z - s else most) = most := if_neg (by omega)
          rw [e1, e2]
          by_cases c3 : most < s - z
          · rw [if_pos (by omega), if_pos c3]
            omega
          · rw [if_neg (by omega), if_neg c3]
        · have e1 : (if z - s < 0 then s - z else z - s) = z - s := if_neg c2
          rw [e1]
          by_cases c3 : most < z - s
          · have e2 : (if most < z - s then z - s else most) = z - s := if_pos c3
            rw [e2, if_neg (by omega)]
          · have e2 : (if most < z - s then z - s else most) = most := if_neg c3
            rw [e2, if_neg (by omega)]
      rw [e]
    · generalize g.f1 * (L.length : Int) = z at hm
      split <;> (try split) <;> omega
    · generalize g.f1 * (L.length : Int) = z at hm
      split <;> (try split) <;> omega
theorem measure_Jitter_ev {l : List S36} (hl : l.length ≤ 2000) : Ev (fun k => measure_Jitter.f k l) (jitV l) := by
  unfold jitV
  refine Ev.bind (measure_sum_ev l) ?_
  by_cases c : (sumV l).2 = 0
  · simp only [if_pos c]
    have h := sumV_ok c
    exact measure_Jitter_l0 l (sumV l).1 hl h.2.1 h.2.2.2.1 (by omega) l [] 0 h.2.2.1 (by omega) (by omega) (by simpa using hl)
  · simp only [if_neg c]
    exact Ev.now _
theorem ref_Jitter_l0 (s : Int) (hs0 : 0 ≤ s) (hs1 : s ≤ 2199023255552000) (L : List S36) (hL : L.length ≤ 2000) (hL0 : 0 < L.length) : ∀ (post pre : List S36) (most : Int), L = pre ++ post → (∀ g ∈ post, 0 ≤ g.f1 ∧ g.f1 ≤ 1099511627776) → 0 ≤ most → most ≤ 4398046511104000 →
    Ev (fun k => signalbenchref48_Jitter.l0 k L s most (pre.length : Int)) (mkV (jitF (L.length : Int) s most post) (L.length : Int))
  | [], pre, most, hp, hb, h0, h1 => by
    rw [jitF]
    refine Ev.step (f := fun k => (signalbenchref01_Make.f k most (L.length : Int)).bind fun bt => (some (bt.1, bt.2.1, bt.2.2))) (fun k => ?_) (Ev.bind (ref_Make_ev (wf_small (by omega) (by omega)) (wf_small (by omega) (by omega))) (Ev.now _))
    simp only [signalbenchref48_Jitter.l0]
    rw [if_neg (by rw [hp]; simp)]
  | g :: post, pre, most, hp, hb, h0, h1 => by
    have hg := hb g (by simp)
    have hm := mul_bound hg.1 hg.2 (n := (L.length : Int)) (by omega) (by omega)
    have hlt : (pre.length : Int) < (L.length : Int) := by
      rw [hp]
      exact midg_lt pre post g
    have hr : rd_T36 L (pre.length : Int) = g := by
      rw [hp]
      exact rdG_mid pre post g
    have hn : pre.length ≤ 9223372036854775806 := by omega
    have ih := fun m h0 h1 => ref_Jitter_l0 s hs0 hs1 L hL hL0 post (pre ++ [g]) m (by rw [hp]; simp) (fun q hq => hb q (List.mem_cons_of_mem _ hq)) h0 h1
    rw [jitF]
    refine Ev.step (fun k => ?_) (ih _ ?_ ?_)
    · simp only [signalbenchref48_Jitter.l0]
      rw [hr, if_pos hlt, if_pos (by omega), Int.mul_comm (L.length : Int) g.f1, w64 (x := g.f1 * (L.length : Int)) (by omega) (by omega), w64 (x := g.f1 * (L.length : Int) - s) (by omega) (by omega), w64 (x := -(g.f1 * (L.length : Int) - s)) (by omega) (by omega), succ_mid pre g hn]
      generalize g.f1 * (L.length : Int) = z at hm
      by_cases c2 : z - s < 0
      · rw [if_pos c2, if_pos c2]
        have e : -(z - s) = s - z := by omega
        rw [e]
        by_cases c3 : most < s - z
        · rw [if_pos (by omega), if_pos c3]
        · rw [if_neg (by omega), if_neg c3]
      · rw [if_neg c2, if_neg c2]
        by_cases c3 : most < z - s
        · rw [if_pos (by omega), if_pos c3]
        · rw [if_neg (by omega), if_neg c3]
    · generalize g.f1 * (L.length : Int) = z at hm
      split <;> (try split) <;> omega
    · generalize g.f1 * (L.length : Int) = z at hm
      split <;> (try split) <;> omega
theorem ref_Jitter_ev {l : List S36} (hl : l.length ≤ 2000) : Ev (fun k => signalbenchref48_Jitter.f k l) (jitV l) := by
  unfold jitV
  refine Ev.bind (ref_sum_ev l) ?_
  by_cases c : (sumV l).2 = 0
  · simp only [if_pos c]
    have h := sumV_ok c
    exact ref_Jitter_l0 (sumV l).1 h.2.2.2.1 (by omega) l hl h.2.1 l [] 0 rfl h.2.2.1 (by omega) (by omega)
  · simp only [if_neg c]
    exact Ev.now _
theorem MeasureLists_pure {l : List S36} {least : Bool} (hl : l.length ≤ 140737488351232) : ∃ k, signalbenchlaw48_MeasureLists.f k l least = some true := by
  refine Ev.rounds (g := fun k => signalbenchlaw48_MeasureLists.f k l least) (Ev.bind lives_ev ?_)
  simp only [if_true]
  by_cases c : (l.length : Int) > 2000
  · exact Ev.congr (fun k => if_pos c) (Ev.now _)
  · refine Ev.congr (fun k => if_neg c) ?_
    have h2 : l.length ≤ 2000 := by omega
    refine Ev.bind (measure_Worst_ev hl) (Ev.bind (ref_Worst_ev hl) (Ev.bind (measure_Mean_ev l) (Ev.bind (ref_Mean_ev l) (Ev.bind (measure_Jitter_ev h2) (Ev.bind (ref_Jitter_ev h2) ?_)))))
    simp only [if_true, beq_self_eq_true, Bool.and_self]
    exact Ev.now _
end Go.Proofs.Ytdbbmjfiglcfhaa
