/- For each Go function that the seat's laws reach: a Lean function with the same answers, and the proof that the Go code comes to them. Made by a program of this session over the translation; no condition beside those that each theorem bears. -/
import Derived.Test.YtakjoggjggcdpaaQx0
namespace Go.Proofs.Ytakjoggjggcdpaa.Q
open Go.RowKit Go.Proofs.YtakjoggjggcdpaaW.PrintWords Go.Proofs.YtakjoggjggcdpaaW.PrintLast Go.Proofs.YtakjoggjggcdpaaW.PrintMore
attribute [local go_sem] max2_int min2_int max_two min_two max_three min_three max_four min_four   -- for this text's walks alone
set_option linter.unusedVariables false
set_option linter.unusedSimpArgs false

/-! ### slices_Grow_Run: function 38 (of a nil slice) -/
def slices_Grow_Run.f (a1 : Int) : Option (List S39) := if 0 ≤ a1 then (if a1.toNat ≤ 4398046511104 then some [] else none) else none
set_option maxHeartbeats 8000000 in
set_option maxRecDepth 100000 in
theorem slices_Grow_Run.calls (a1 : Int) (r : List S39) (w : World) (h : slices_Grow_Run.f a1 = some r) :
    Calls Try.prog 38 #[.slice none 0 0, .int .i64 a1] w fun e w' => ∃ v, e = .returned v ∧ Kd.R k39 39 w' w.heap.size (fun _ => True) v r ∧ Below w.heap.size w w' := by
  unfold slices_Grow_Run.f at h
  by_cases h0 : 0 ≤ a1
  · rw [if_pos h0] at h
    by_cases h1 : a1.toNat ≤ 4398046511104
    · rw [if_pos h1] at h
      obtain rfl := Option.some.inj h
      clear h
      have hb0 : a1 ≤ 4398046511104 := by omega
      by_cases h2 : 0 < a1
      · have hd : decide (a1 < 0) = false := decide_eq_false (by omega)
        have hd2 : decide (0 < a1) = true := decide_eq_true h2
        go_enter Try.func38, Try.ntmps38
        go_wp2_with (first | ((with_reducible refine gate_builtin (b := .append) (xs := #[.tmp 20, .tmp 21]) rfl ?_); at_builtin; refine Kd.R_append_zeros k39 (w0 := w) w.heap.size rfl (.tmp 20) (.tmp 21) 22 3 39 (.agg #[(.int .i64 0), (.int .i64 0)]) 16 rfl Try.underlying22 Try.underlying3 info39 rfl (by decide) (by omega) (.slice none 0 0) [] z39 a1 (fun _ => True) rfl rfl (k39_mkM _ _ _ z39 ) (fun _ _ => trivial) (Kd.R_nil _ _ _ _ _) h0 (Below.refl _ _) (Nat.le_refl _) ?aL ?_; (case aL => simp only [List.length_nil]; omega); intro v1 w1 ho hb hg hat; obtain ⟨g, cap, eo, gb, gl, cl, HG⟩ := Kd.R_form ho (by simp only [List.nil_append, List.length_replicate]; omega); subst eo; have HO := Aside0.mk (Kd.R_take (m := 0) ho (Nat.zero_le _)); have HB := Aside0.mk hb; clear ho hb hg hat gb gl HG))
        go_ret
        exact ⟨_, rfl, by simpa using HO.out, HB.out⟩
      · have h3 : a1 = 0 := by omega
        subst h3
        go_enter Try.func38, Try.ntmps38
        go_wp2
        go_ret
        exact ⟨_, rfl, Kd.R_nil _ _ _ _ _, Below.refl _ _⟩
    · rw [if_neg h1] at h
      cases h
  · rw [if_neg h0] at h
    cases h

end Go.Proofs.Ytakjoggjggcdpaa.Q
