/- For each Go function that the seat's laws reach: a Lean function with the same answers, and the proof that the Go code comes to them. Made by a program of this session over the translation; no condition beside those that each theorem bears. -/
import Derived.Test.YtakjoggjggcdpaaQx0
namespace Go.Proofs.Ytakjoggjggcdpaa.Q
open Go.RowKit Go.Proofs.YtakjoggjggcdpaaW.PrintWords Go.Proofs.YtakjoggjggcdpaaW.PrintLast Go.Proofs.YtakjoggjggcdpaaW.PrintMore
attribute [local go_sem] max2_int min2_int max_two min_two max_three min_three max_four min_four   -- for this text's walks alone
set_option linter.unusedVariables false
set_option linter.unusedSimpArgs false

/-! ### signalbenchlaw08_Example: function 32 -/
def signalbenchlaw08_Example.f  : Option ((List (S39))) := some (([(⟨1, 8⟩ : S39), (⟨1, 2⟩ : S39), (⟨0, 4⟩ : S39)] : List (S39)))
set_option maxHeartbeats 8000000 in
set_option maxRecDepth 100000 in
theorem signalbenchlaw08_Example.calls  (r : List (S39)) (w : World) (h : signalbenchlaw08_Example.f  = some r) :
    Calls Try.prog 32 #[] w fun e w' => ∃ v0_ : Value, e = .returned (v0_) ∧ Kd.R k39 39 w' w.heap.size (fun _ => True) v0_ r ∧ Below w.heap.size w w' := by
  have hu39 := Try.underlying39
  have HB := Aside0.mk (Below.refl w.heap.size w)
  have H : (some (([(⟨1, 8⟩ : S39), (⟨1, 2⟩ : S39), (⟨0, 4⟩ : S39)] : List (S39)))) = some r := h
  clear h
  obtain ⟨y143, hy143⟩ : ∃ y_ : List (S39), y_ = (([(⟨1, 8⟩ : S39), (⟨1, 2⟩ : S39), (⟨0, 4⟩ : S39)] : List (S39))) := ⟨_, rfl⟩
  replace H : (some y143) = some r := by first | (rw [hy143]; with_reducible exact H) | (have H2_ := (Option.bind_some _ _).symm.trans H; rw [hy143]; with_reducible exact H2_) | (have H2_ := (Option.bind_some _ _).symm.trans H; with_reducible exact H2_) | with_reducible exact H | (rw [hy143]; exact H) | exact H
  have Ny143 := Aside0.mk hy143
  clear hy143
  obtain rfl := Option.some.inj H
  go_enter Try.func32, Try.ntmps32
  go_wp2_with (first | ((with_reducible refine gate_dst (N := 4) rfl ?_); refine Kd.R_lit k39 _ 39 ?hg (N := 4) ?hd (xs := ([(⟨1, 8⟩ : S39), (⟨1, 2⟩ : S39), (⟨0, 4⟩ : S39)] : List (S39))) (inner := [.int .i64 1, .int .i64 8, .int .i64 1, .int .i64 2, .int .i64 0, .int .i64 4]) (ok := fun _ => True) (okp := fun _ => True) ?hr ?hp (fun _ hk => hk) trivial (Below.refl _ _) (Nat.le_refl _) (by simp) ?_; (case hd => rfl); (case hg => rfl); (case hr => first | (go_simp; done) | (go_simp; rfl)); (case hp => exact (Reps.c2 (show Kd.M k39 _ _ _ (⟨1, 8⟩ : S39) [.int .i64 1, .int .i64 8] from (k39_mkM _ _ _ (⟨1, 8⟩ : S39) )) (Reps.c2 (show Kd.M k39 _ _ _ (⟨1, 2⟩ : S39) [.int .i64 1, .int .i64 2] from (k39_mkM _ _ _ (⟨1, 2⟩ : S39) )) (Reps.c2 (show Kd.M k39 _ _ _ (⟨0, 4⟩ : S39) [.int .i64 0, .int .i64 4] from (k39_mkM _ _ _ (⟨0, 4⟩ : S39) )) (Reps.none _ _))))); intro v144 w1 ho2 hb hg_ hnew_; clear hg_ hnew_; (first | rw [← Ny143.out] at ho2 | (simp only [Int.reduceToNat] at ho2; rw [← Ny143.out] at ho2)); have n0_ := Aside0.mk (Kd.R_lower ho2 (below_size (by repeat (first | (with_reducible first | exact HB.out | apply below_alloc | apply pw_below_drewN | apply below_drew1) | exact HB.out)))); have n1_ := Aside0.mk (below_step (by repeat (first | (with_reducible first | exact HB.out | apply below_alloc | apply pw_below_drewN | apply below_drew1) | exact HB.out)) hb); clear HB; have HO145 := n0_; have HB := n1_; clear n0_ n1_; clear hb ho2))
  go_ret
  exact ⟨_, by first | rfl | (simp [errW_none, errW_some] <;> rfl) | (simp [*, errW_none, errW_some] <;> rfl), by (with_reducible repeat (first | apply Kd.R_alloc | apply Kd.R_drewN | apply Kd.R_drew)); exact HO145.out, by repeat (first | (with_reducible first | exact HB.out | apply below_alloc | apply pw_below_drewN | apply below_drew1) | exact HB.out)⟩

end Go.Proofs.Ytakjoggjggcdpaa.Q
