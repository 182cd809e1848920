/- For each Go function that the seat's laws reach: a Lean function with the same answers, and the proof that the Go code comes to them. Made by a program of this session over the translation; no condition beside those that each theorem bears. -/
import Derived.Test.YtobicjobkdhelaaQx0
import Derived.Test.YtobicjobkdhelaaQx1
import Derived.Test.YtobicjobkdhelaaQx10
import Derived.Test.YtobicjobkdhelaaQx11
import Derived.Test.YtobicjobkdhelaaQx14
namespace Go.Proofs.Ytobicjobkdhelaa.Q
open Go.RowKit Go.Proofs.YtobicjobkdhelaaW.PrintWords Go.Proofs.YtobicjobkdhelaaW.PrintLast Go.Proofs.YtobicjobkdhelaaW.PrintMore
attribute [local go_sem] max2_int min2_int max_two min_two max_three min_three max_four min_four   -- for this text's walks alone
set_option linter.unusedVariables false
set_option linter.unusedSimpArgs false

attribute [local go_sem high] eqA48
/-! ### signalbenchlaw13_awake: function 11 -/
def signalbenchlaw13_awake.f (k : Nat)  : Option (Bool) := (some (([(⟨0, 5⟩ : S48), (⟨1, 2⟩ : S48), (⟨0, 3⟩ : S48), (⟨1, 1⟩ : S48), (⟨0, 4⟩ : S48)] : List (S48)) : List (S48))).bind fun y198 => ((glitch_Filter.f k y198 3).bind fun t201 => ((glitch_Insert.f k t201 5 2).bind fun bt204 => ((glitch_Insert.f k t201 14 2).bind fun bt208 => (if (t201.length : Int) = 1 then (if (bt204.1.length : Int) = 3 then (if bt204.2 = 0 then (if bt208.2 = 2 then ((glitch_Count.f k y198 3).bind fun t212 => (if t212 = 2 then (if 0 < (t201.length : Int) then (if (((rd_T48 t201 0).f0) == 0 && (((rd_T48 t201 0).f1) == 15)) = true then (if 1 < (bt204.1.length : Int) then (if (((rd_T48 bt204.1 1).f0) == 1 && (((rd_T48 bt204.1 1).f1) == 2)) = true then (if 2 < (bt204.1.length : Int) then (some (((rd_T48 bt204.1 2).f0) == 0 && (((rd_T48 bt204.1 2).f1) == 8))) else (none)) else (none)) else (none)) else (none)) else (none)) else (none))) else (none)) else (none)) else (none)) else (none)))))
theorem signalbenchlaw13_awake.mono : ∀ k, LeO (signalbenchlaw13_awake.f k ) (signalbenchlaw13_awake.f (k + 1) ) := by
 intro  k
 unfold signalbenchlaw13_awake.f
 repeat' first
   | (with_reducible exact glitch_Count.mono _ _ _)
   | (with_reducible exact glitch_Filter.mono _ _ _)
   | (with_reducible exact glitch_Insert.mono _ _ _ _)
   | (with_reducible exact LeO.refl _)
   | (with_reducible exact LeO.none _)
   | (with_reducible refine LeO.ite ?_ ?_)
   | (with_reducible refine LeO.bind ?_ (fun _ => ?_))
   | exact glitch_Count.mono _ _ _
   | exact glitch_Filter.mono _ _ _
   | exact glitch_Insert.mono _ _ _ _
   | exact LeO.none _
   | refine LeO.ite ?_ ?_
   | refine LeO.bind ?_ (fun _ => ?_)
set_option maxHeartbeats 8000000 in
set_option maxRecDepth 100000 in
theorem signalbenchlaw13_awake.calls (k : Nat)  (r : Bool) (w : World) (h : signalbenchlaw13_awake.f k  = some r) :
  Calls Try.prog 11 #[] w fun e w' => e = .returned (.bool r) ∧ Below w.heap.size w w' := by
 have hu48 := Try.underlying48
 have HB := Aside0.mk (Below.refl w.heap.size w)
 have H : ((some (([(⟨0, 5⟩ : S48), (⟨1, 2⟩ : S48), (⟨0, 3⟩ : S48), (⟨1, 1⟩ : S48), (⟨0, 4⟩ : S48)] : List (S48)) : List (S48))).bind fun y198 => ((glitch_Filter.f k y198 3).bind fun t201 => ((glitch_Insert.f k t201 5 2).bind fun bt204 => ((glitch_Insert.f k t201 14 2).bind fun bt208 => (if (t201.length : Int) = 1 then (if (bt204.1.length : Int) = 3 then (if bt204.2 = 0 then (if bt208.2 = 2 then ((glitch_Count.f k y198 3).bind fun t212 => (if t212 = 2 then (if 0 < (t201.length : Int) then (if (((rd_T48 t201 0).f0) == 0 && (((rd_T48 t201 0).f1) == 15)) = true then (if 1 < (bt204.1.length : Int) then (if (((rd_T48 bt204.1 1).f0) == 1 && (((rd_T48 bt204.1 1).f1) == 2)) = true then (if 2 < (bt204.1.length : Int) then (some (((rd_T48 bt204.1 2).f0) == 0 && (((rd_T48 bt204.1 2).f1) == 8))) else (none)) else (none)) else (none)) else (none)) else (none)) else (none))) else (none)) else (none)) else (none)) else (none)))))) = some r := h
 clear h
 obtain ⟨y198, hy198⟩ : ∃ y_ : List (S48), y_ = (([(⟨0, 5⟩ : S48), (⟨1, 2⟩ : S48), (⟨0, 3⟩ : S48), (⟨1, 1⟩ : S48), (⟨0, 4⟩ : S48)] : List (S48))) := ⟨_, rfl⟩
 replace H : ((glitch_Filter.f k y198 3).bind fun t201 => ((glitch_Insert.f k t201 5 2).bind fun bt204 => ((glitch_Insert.f k t201 14 2).bind fun bt208 => (if (t201.length : Int) = 1 then (if (bt204.1.length : Int) = 3 then (if bt204.2 = 0 then (if bt208.2 = 2 then ((glitch_Count.f k y198 3).bind fun t212 => (if t212 = 2 then (if 0 < (t201.length : Int) then (if (((rd_T48 t201 0).f0) == 0 && (((rd_T48 t201 0).f1) == 15)) = true then (if 1 < (bt204.1.length : Int) then (if (((rd_T48 bt204.1 1).f0) == 1 && (((rd_T48 bt204.1 1).f1) == 2)) = true then (if 2 < (bt204.1.length : Int) then (some (((rd_T48 bt204.1 2).f0) == 0 && (((rd_T48 bt204.1 2).f1) == 8))) else (none)) else (none)) else (none)) else (none)) else (none)) else (none))) else (none)) else (none)) else (none)) else (none))))) = some r := by first | (rw [hy198]; with_reducible exact H) | (have H2_ := (Option.bind_some _ _).symm.trans H; rw [hy198]; with_reducible exact H2_) | (have H2_ := (Option.bind_some _ _).symm.trans H; with_reducible exact H2_) | with_reducible exact H | (rw [hy198]; exact H) | exact H
 have Ny198 := Aside0.mk hy198
 clear hy198
 replace H := Option.bind_eq_some_iff.mp H
 obtain ⟨t201, A10, H⟩ := H
 replace H : ((glitch_Insert.f k t201 5 2).bind fun bt204 => ((glitch_Insert.f k t201 14 2).bind fun bt208 => (if (t201.length : Int) = 1 then (if (bt204.1.length : Int) = 3 then (if bt204.2 = 0 then (if bt208.2 = 2 then ((glitch_Count.f k y198 3).bind fun t212 => (if t212 = 2 then (if 0 < (t201.length : Int) then (if (((rd_T48 t201 0).f0) == 0 && (((rd_T48 t201 0).f1) == 15)) = true then (if 1 < (bt204.1.length : Int) then (if (((rd_T48 bt204.1 1).f0) == 1 && (((rd_T48 bt204.1 1).f1) == 2)) = true then (if 2 < (bt204.1.length : Int) then (some (((rd_T48 bt204.1 2).f0) == 0 && (((rd_T48 bt204.1 2).f1) == 8))) else (none)) else (none)) else (none)) else (none)) else (none)) else (none))) else (none)) else (none)) else (none)) else (none)))) = some r := H
 have A1 := Aside0.mk A10
 clear A10
 replace H := Option.bind_eq_some_iff.mp H
 obtain ⟨⟨t204, t205⟩, A20, H⟩ := H
 replace H : ((glitch_Insert.f k t201 14 2).bind fun bt208 => (if (t201.length : Int) = 1 then (if (t204.length : Int) = 3 then (if t205 = 0 then (if bt208.2 = 2 then ((glitch_Count.f k y198 3).bind fun t212 => (if t212 = 2 then (if 0 < (t201.length : Int) then (if (((rd_T48 t201 0).f0) == 0 && (((rd_T48 t201 0).f1) == 15)) = true then (if 1 < (t204.length : Int) then (if (((rd_T48 t204 1).f0) == 1 && (((rd_T48 t204 1).f1) == 2)) = true then (if 2 < (t204.length : Int) then (some (((rd_T48 t204 2).f0) == 0 && (((rd_T48 t204 2).f1) == 8))) else (none)) else (none)) else (none)) else (none)) else (none)) else (none))) else (none)) else (none)) else (none)) else (none))) = some r := H
 have A2 := Aside0.mk A20
 clear A20
 replace H := Option.bind_eq_some_iff.mp H
 obtain ⟨⟨t208, t209⟩, A30, H⟩ := H
 replace H : (if (t201.length : Int) = 1 then (if (t204.length : Int) = 3 then (if t205 = 0 then (if t209 = 2 then ((glitch_Count.f k y198 3).bind fun t212 => (if t212 = 2 then (if 0 < (t201.length : Int) then (if (((rd_T48 t201 0).f0) == 0 && (((rd_T48 t201 0).f1) == 15)) = true then (if 1 < (t204.length : Int) then (if (((rd_T48 t204 1).f0) == 1 && (((rd_T48 t204 1).f1) == 2)) = true then (if 2 < (t204.length : Int) then (some (((rd_T48 t204 2).f0) == 0 && (((rd_T48 t204 2).f1) == 8))) else (none)) else (none)) else (none)) else (none)) else (none)) else (none))) else (none)) else (none)) else (none)) else (none)) = some r := H
 have A3 := Aside0.mk A30
 clear A30
 by_cases c4 : (t201.length : Int) = 1
 ·rw [if_pos c4] at H
  have c4b0 : ((t201.length : Int) == 1) = true := beq_iff_eq.mpr c4
  have c4b1 : ((t201.length : Int) != 1) = false := bne_eq_false_iff_eq.mpr c4
  clear c4
  by_cases c5 : (t204.length : Int) = 3
  ·rw [if_pos c5] at H
   have c5b0 : ((t204.length : Int) == 3) = true := beq_iff_eq.mpr c5
   have c5b1 : ((t204.length : Int) != 3) = false := bne_eq_false_iff_eq.mpr c5
   clear c5
   by_cases c6 : t205 = 0
   ·rw [if_pos c6] at H
    have c6b0 : (t205 == 0) = true := beq_iff_eq.mpr c6
    have c6b1 : (t205 != 0) = false := bne_eq_false_iff_eq.mpr c6
    clear c6
    by_cases c7 : t209 = 2
    ·rw [if_pos c7] at H
     have c7b0 : (t209 == 2) = true := beq_iff_eq.mpr c7
     have c7b1 : (t209 != 2) = false := bne_eq_false_iff_eq.mpr c7
     clear c7
     replace H := Option.bind_eq_some_iff.mp H
     obtain ⟨t212, A80, H⟩ := H
     replace H : (if t212 = 2 then (if 0 < (t201.length : Int) then (if (((rd_T48 t201 0).f0) == 0 && (((rd_T48 t201 0).f1) == 15)) = true then (if 1 < (t204.length : Int) then (if (((rd_T48 t204 1).f0) == 1 && (((rd_T48 t204 1).f1) == 2)) = true then (if 2 < (t204.length : Int) then (some (((rd_T48 t204 2).f0) == 0 && (((rd_T48 t204 2).f1) == 8))) else (none)) else (none)) else (none)) else (none)) else (none)) else (none)) = some r := H
     have A8 := Aside0.mk A80
     clear A80
     by_cases c9 : t212 = 2
     ·rw [if_pos c9] at H
      have c9b0 : (t212 == 2) = true := beq_iff_eq.mpr c9
      have c9b1 : (t212 != 2) = false := bne_eq_false_iff_eq.mpr c9
      clear c9
      by_cases c10 : 0 < (t201.length : Int)
      ·rw [if_pos c10] at H
       have c10b0 : decide (0 < (t201.length : Int)) = true := decide_eq_true c10
       have c10b1 : decide (0 < t201.length) = true := decide_eq_true (by omega)
       clear c10
       by_cases c11 : (((rd_T48 t201 0).f0) == 0 && (((rd_T48 t201 0).f1) == 15)) = true
       ·rw [if_pos c11] at H
        have c11b0 : (((rd_T48 t201 0).f0) == 0 && (((rd_T48 t201 0).f1) == 15)) = true := c11
        (try (have c11b1 : decide (((rd_T48 t201 0).f0) = 0 && (((rd_T48 t201 0).f1) == 15)) = true := by simpa using c11))
        (try (have c11b2 : (((rd_T48 t201 0).f0) == 0 && (((rd_T48 t201 0).f1) == 15)) = true := by simpa using c11))
        clear c11
        by_cases c12 : 1 < (t204.length : Int)
        ·rw [if_pos c12] at H
         have c12b0 : decide (1 < (t204.length : Int)) = true := decide_eq_true c12
         have c12b1 : decide (1 < t204.length) = true := decide_eq_true (by omega)
         clear c12
         by_cases c13 : (((rd_T48 t204 1).f0) == 1 && (((rd_T48 t204 1).f1) == 2)) = true
         ·rw [if_pos c13] at H
          have c13b0 : (((rd_T48 t204 1).f0) == 1 && (((rd_T48 t204 1).f1) == 2)) = true := c13
          (try (have c13b1 : decide (((rd_T48 t204 1).f0) = 1 && (((rd_T48 t204 1).f1) == 2)) = true := by simpa using c13))
          (try (have c13b2 : (((rd_T48 t204 1).f0) == 1 && (((rd_T48 t204 1).f1) == 2)) = true := by simpa using c13))
          clear c13
          by_cases c14 : 2 < (t204.length : Int)
          ·rw [if_pos c14] at H
           have c14b0 : decide (2 < (t204.length : Int)) = true := decide_eq_true c14
           have c14b1 : decide (2 < t204.length) = true := decide_eq_true (by omega)
           clear c14
           obtain rfl := Option.some.inj H
           go_enter Try.func11, Try.ntmps11
           go_wp2_with (first | ((with_reducible refine gate_dst (N := 12) rfl ?_); (try (refine gate_guard (by rfl) ?_; dsimp only)); refine Kd.R_lit k48 _ 48 ?hg (N := 12) ?hd (xs := ([(⟨0, 5⟩ : S48), (⟨1, 2⟩ : S48), (⟨0, 3⟩ : S48), (⟨1, 1⟩ : S48), (⟨0, 4⟩ : S48)] : List (S48))) (inner := [.int .i64 0, .int .i64 5, .int .i64 1, .int .i64 2, .int .i64 0, .int .i64 3, .int .i64 1, .int .i64 1, .int .i64 0, .int .i64 4]) (ok := fun _ => True) (okp := fun _ => True) ?hr ?hp (fun _ hk => hk) trivial (Below.refl _ _) (Nat.le_refl _) (by simp) ?_; (case hd => rfl); (case hg => rfl); (case hr => first | (go_simp; done) | (go_simp; rfl)); (case hp => exact (Reps.c2 (show Kd.M k48 _ _ _ (⟨0, 5⟩ : S48) [.int .i64 0, .int .i64 5] from (k48_mkM _ _ _ (⟨0, 5⟩ : S48) )) (Reps.c2 (show Kd.M k48 _ _ _ (⟨1, 2⟩ : S48) [.int .i64 1, .int .i64 2] from (k48_mkM _ _ _ (⟨1, 2⟩ : S48) )) (Reps.c2 (show Kd.M k48 _ _ _ (⟨0, 3⟩ : S48) [.int .i64 0, .int .i64 3] from (k48_mkM _ _ _ (⟨0, 3⟩ : S48) )) (Reps.c2 (show Kd.M k48 _ _ _ (⟨1, 1⟩ : S48) [.int .i64 1, .int .i64 1] from (k48_mkM _ _ _ (⟨1, 1⟩ : S48) )) (Reps.c2 (show Kd.M k48 _ _ _ (⟨0, 4⟩ : S48) [.int .i64 0, .int .i64 4] from (k48_mkM _ _ _ (⟨0, 4⟩ : S48) )) (Reps.none _ _))))))); intro v199 w15 ho16 hb hg_ hnew_; clear hg_ hnew_; (first | rw [← Ny198.out] at ho16 | (simp only [Int.reduceToNat] at ho16; rw [← Ny198.out] at ho16)); have n0_ := Aside0.mk (Kd.R_lower ho16 (below_size (by repeat (first | (with_reducible first | exact HB.out | apply below_alloc | apply pw_below_drewN | apply below_drew1) | exact HB.out)))); have n1_ := Aside0.mk (below_step (by repeat (first | (with_reducible first | exact HB.out | apply below_alloc | apply pw_below_drewN | apply below_drew1) | exact HB.out)) hb); clear HB; have HO200 := n0_; have HB := n1_; clear n0_ n1_; clear hb ho16; obtain ⟨Ao17, co17, eo17⟩ := Kd.R_slice HO200.out; subst eo17) | ((with_reducible refine gate_callee (f := 15) rfl ?_); refine goesL_ (some 14) rfl rfl Try.func15 (by kernel_rfl) rfl #[.slice Ao17 y198.length co17, .int .i64 3] rfl (by (try simp only [List.map_toArray, List.map_cons, List.map_nil]); first | done | rfl | (simp only [List.length_drop, List.length_take]; rfl)) ?_; (with_reducible refine (glitch_Filter.calls k _ _ y198 3 t201 _ ?side1 ?side2 A1.out).mono ?_); (case side1 => repeat (first | exact (Kd.R_reads' HO200.out).2.2 | (with_reducible refine Kd.C_alloc ?_ _) | (with_reducible refine Kd.C_drewN ?_ _) | (with_reducible refine Kd.C_drew ?_))); (case side2 => exact (Kd.R_reads' HO200.out).2.1); rintro e w18 ⟨v202, rfl, ho0, hb⟩; refine ⟨_, rfl, ?_⟩; have n0_ := Aside0.mk (Kd.R_elder' (by (with_reducible repeat (first | apply Kd.R_alloc | apply Kd.R_drewN | apply Kd.R_drew)); exact HO200.out) (Kd.R_base ho0) hb); have n1_ := Aside0.mk (Kd.R_lower (Kd.R_new' ho0 (Kd.R_lt (by (with_reducible repeat (first | apply Kd.R_alloc | apply Kd.R_drewN | apply Kd.R_drew)); exact HO200.out))) (below_size (by repeat (first | (with_reducible first | exact HB.out | apply below_alloc | apply pw_below_drewN | apply below_drew1) | exact HB.out)))); have n2_ := Aside0.mk (below_step (by repeat (first | (with_reducible first | exact HB.out | apply below_alloc | apply pw_below_drewN | apply below_drew1) | exact HB.out)) hb); clear HO200; clear HB; have HO200 := n0_; have HO203 := n1_; have HB := n2_; clear n0_ n1_ n2_; (try clear hb); (try clear hb2); (try clear hk); (try clear hi); (try clear ho0); obtain ⟨Ao19, co19, eo19⟩ := Kd.R_slice HO203.out; subst eo19) | ((with_reducible refine gate_callee (f := 17) rfl ?_); refine goesL_ (some 17) rfl rfl Try.func17 (by kernel_rfl) rfl #[.slice Ao19 t201.length co19, .int .i64 5, .int .i64 2] rfl (by (try simp only [List.map_toArray, List.map_cons, List.map_nil]); first | done | rfl | (simp only [List.length_drop, List.length_take]; rfl)) ?_; (with_reducible refine (glitch_Insert.calls k _ _ t201 5 2 t204 t205 _ ?side1 ?side2 A2.out).mono ?_); (case side1 => repeat (first | exact (Kd.R_reads' HO203.out).2.2 | (with_reducible refine Kd.C_alloc ?_ _) | (with_reducible refine Kd.C_drewN ?_ _) | (with_reducible refine Kd.C_drew ?_))); (case side2 => exact (Kd.R_reads' HO203.out).2.1); rintro e w20 ⟨v206, rfl, ho0, hb⟩; refine ⟨_, rfl, ?_⟩; have n0_ := Aside0.mk (Kd.R_elder' (by (with_reducible repeat (first | apply Kd.R_alloc | apply Kd.R_drewN | apply Kd.R_drew)); exact HO200.out) (Kd.R_base ho0) hb); have n1_ := Aside0.mk (Kd.R_elder' (by (with_reducible repeat (first | apply Kd.R_alloc | apply Kd.R_drewN | apply Kd.R_drew)); exact HO203.out) (Kd.R_base ho0) hb); have n2_ := Aside0.mk (Kd.R_lower (Kd.R_new' (Kd.R_new' ho0 (Kd.R_lt (by (with_reducible repeat (first | apply Kd.R_alloc | apply Kd.R_drewN | apply Kd.R_drew)); exact HO200.out))) (Kd.R_lt (by (with_reducible repeat (first | apply Kd.R_alloc | apply Kd.R_drewN | apply Kd.R_drew)); exact HO203.out))) (below_size (by repeat (first | (with_reducible first | exact HB.out | apply below_alloc | apply pw_below_drewN | apply below_drew1) | exact HB.out)))); have n3_ := Aside0.mk (below_step (by repeat (first | (with_reducible first | exact HB.out | apply below_alloc | apply pw_below_drewN | apply below_drew1) | exact HB.out)) hb); clear HO200; clear HO203; clear HB; have HO200 := n0_; have HO203 := n1_; have HO207 := n2_; have HB := n3_; clear n0_ n1_ n2_ n3_; (try clear hb); (try clear hb2); (try clear hk); (try clear hi); (try clear ho0)) | ((with_reducible refine gate_callee (f := 17) rfl ?_); refine goesL_ (some 22) rfl rfl Try.func17 (by kernel_rfl) rfl #[.slice Ao19 t201.length co19, .int .i64 14, .int .i64 2] rfl (by (try simp only [List.map_toArray, List.map_cons, List.map_nil]); first | done | rfl | (simp only [List.length_drop, List.length_take]; rfl)) ?_; (with_reducible refine (glitch_Insert.calls k _ _ t201 14 2 t208 t209 _ ?side1 ?side2 A3.out).mono ?_); (case side1 => repeat (first | exact (Kd.R_reads' HO203.out).2.2 | (with_reducible refine Kd.C_alloc ?_ _) | (with_reducible refine Kd.C_drewN ?_ _) | (with_reducible refine Kd.C_drew ?_))); (case side2 => exact (Kd.R_reads' HO203.out).2.1); rintro e w21 ⟨v210, rfl, ho0, hb⟩; refine ⟨_, rfl, ?_⟩; have n0_ := Aside0.mk (Kd.R_elder' (by (with_reducible repeat (first | apply Kd.R_alloc | apply Kd.R_drewN | apply Kd.R_drew)); exact HO200.out) (Kd.R_base ho0) hb); have n1_ := Aside0.mk (Kd.R_elder' (by (with_reducible repeat (first | apply Kd.R_alloc | apply Kd.R_drewN | apply Kd.R_drew)); exact HO203.out) (Kd.R_base ho0) hb); have n2_ := Aside0.mk (Kd.R_elder' (by (with_reducible repeat (first | apply Kd.R_alloc | apply Kd.R_drewN | apply Kd.R_drew)); exact HO207.out) (Kd.R_base ho0) hb); have n3_ := Aside0.mk (Kd.R_lower (Kd.R_new' (Kd.R_new' (Kd.R_new' ho0 (Kd.R_lt (by (with_reducible repeat (first | apply Kd.R_alloc | apply Kd.R_drewN | apply Kd.R_drew)); exact HO200.out))) (Kd.R_lt (by (with_reducible repeat (first | apply Kd.R_alloc | apply Kd.R_drewN | apply Kd.R_drew)); exact HO203.out))) (Kd.R_lt (by (with_reducible repeat (first | apply Kd.R_alloc | apply Kd.R_drewN | apply Kd.R_drew)); exact HO207.out))) (below_size (by repeat (first | (with_reducible first | exact HB.out | apply below_alloc | apply pw_below_drewN | apply below_drew1) | exact HB.out)))); have n4_ := Aside0.mk (below_step (by repeat (first | (with_reducible first | exact HB.out | apply below_alloc | apply pw_below_drewN | apply below_drew1) | exact HB.out)) hb); clear HO200; clear HO203; clear HO207; clear HB; have HO200 := n0_; have HO203 := n1_; have HO207 := n2_; have HO211 := n3_; have HB := n4_; clear n0_ n1_ n2_ n3_ n4_; (try clear hb); (try clear hb2); (try clear hk); (try clear hi); (try clear ho0); obtain ⟨Ao22, co22, eo22⟩ := Kd.R_slice HO207.out; subst eo22) | ((with_reducible refine gate_callee (f := 12) rfl ?_); refine goesL_ (some 42) rfl rfl Try.func12 (by kernel_rfl) rfl #[.slice Ao17 y198.length co17, .int .i64 3] rfl (by (try simp only [List.map_toArray, List.map_cons, List.map_nil]); first | done | rfl | (simp only [List.length_drop, List.length_take]; rfl)) ?_; (with_reducible refine (glitch_Count.calls k _ _ y198 3 t212 _ ?side1 ?side2 A8.out).mono ?_); (case side1 => repeat (first | exact (Kd.R_reads' HO200.out).2.2 | (with_reducible refine Kd.C_alloc ?_ _) | (with_reducible refine Kd.C_drewN ?_ _) | (with_reducible refine Kd.C_drew ?_))); (case side2 => exact (Kd.R_reads' HO200.out).2.1); rintro e w23 ⟨rfl, hb⟩; refine ⟨_, rfl, ?_⟩; have n0_ := Aside0.mk (Kd.R_below (by (with_reducible repeat (first | apply Kd.R_alloc | apply Kd.R_drewN | apply Kd.R_drew)); exact HO200.out) hb); have n1_ := Aside0.mk (Kd.R_below (by (with_reducible repeat (first | apply Kd.R_alloc | apply Kd.R_drewN | apply Kd.R_drew)); exact HO203.out) hb); have n2_ := Aside0.mk (Kd.R_below (by (with_reducible repeat (first | apply Kd.R_alloc | apply Kd.R_drewN | apply Kd.R_drew)); exact HO207.out) hb); have n3_ := Aside0.mk (Kd.R_below (by (with_reducible repeat (first | apply Kd.R_alloc | apply Kd.R_drewN | apply Kd.R_drew)); exact HO211.out) hb); have n4_ := Aside0.mk (below_step (by repeat (first | (with_reducible first | exact HB.out | apply below_alloc | apply pw_below_drewN | apply below_drew1) | exact HB.out)) hb); clear HO200; clear HO203; clear HO207; clear HO211; clear HB; have HO200 := n0_; have HO203 := n1_; have HO207 := n2_; have HO211 := n3_; have HB := n4_; clear n0_ n1_ n2_ n3_ n4_; (try clear hb); (try clear hb2); (try clear hk); (try clear hi); have p213 : 0 ≤ (0 : Int) := (by omega); have q213 : 0 < (t201.length : Int) := of_decide_eq_true (by first | (with_reducible assumption) | assumption); obtain ⟨ad213, e213, hx213_0, hx213_1⟩ := at_T48 (Kd.R_reads' HO203.out).2.2 0 p213 q213; cases e213; have qi213 : (0 < t201.length) = True := eq_true (by omega); (try rw [show ((0 : Int)).toNat = 0 from rfl] at hx213_0); (try rw [show 0 * 2 = 0 from rfl] at hx213_0); (try rw [Addr.add_zero'] at hx213_0); (try rw [show ((0 : Int)).toNat = 0 from rfl] at hx213_1); (try rw [show 0 * 2 = 0 from rfl] at hx213_1); (try rw [Addr.add_zero'] at hx213_1); replace p213 := eq_true p213; replace q213 := eq_true q213; have p214 : 0 ≤ (1 : Int) := (by omega); have q214 : 1 < (t204.length : Int) := of_decide_eq_true (by first | (with_reducible assumption) | assumption); obtain ⟨ad214, e214, hx214_0, hx214_1⟩ := at_T48 (Kd.R_reads' HO207.out).2.2 1 p214 q214; cases e214; (try simp only [show (1 : Int).toNat = 1 from rfl, Nat.reduceMul, Nat.reduceEqDiff, Go.Addr.add, ↓reduceIte] at hx214_0); (try simp only [show (1 : Int).toNat = 1 from rfl, Nat.reduceMul, Nat.reduceEqDiff, Go.Addr.add, ↓reduceIte] at hx214_1); have qi214 : (1 < t204.length) = True := eq_true (by omega); (try rw [show ((1 : Int)).toNat = 1 from rfl] at hx214_0); (try rw [show 1 * 2 = 2 from rfl] at hx214_0); (try rw [show ((1 : Int)).toNat = 1 from rfl] at hx214_1); (try rw [show 1 * 2 = 2 from rfl] at hx214_1); replace p214 := eq_true p214; replace q214 := eq_true q214; have p215 : 0 ≤ (2 : Int) := (by omega); have q215 : 2 < (t204.length : Int) := of_decide_eq_true (by first | (with_reducible assumption) | assumption); obtain ⟨ad215, e215, hx215_0, hx215_1⟩ := at_T48 (Kd.R_reads' HO207.out).2.2 2 p215 q215; obtain rfl : ad214 = ad215 := (by injection e215); (try simp only [show (2 : Int).toNat = 2 from rfl, Nat.reduceMul, Nat.reduceEqDiff, Go.Addr.add, ↓reduceIte] at hx215_0); (try simp only [show (2 : Int).toNat = 2 from rfl, Nat.reduceMul, Nat.reduceEqDiff, Go.Addr.add, ↓reduceIte] at hx215_1); have qi215 : (2 < t204.length) = True := eq_true (by omega); (try rw [show ((2 : Int)).toNat = 2 from rfl] at hx215_0); (try rw [show 2 * 2 = 4 from rfl] at hx215_0); (try rw [show ((2 : Int)).toNat = 2 from rfl] at hx215_1); (try rw [show 2 * 2 = 4 from rfl] at hx215_1); replace p215 := eq_true p215; replace q215 := eq_true q215))
           go_ret
           exact ⟨by first | rfl | (simp [errW_none, errW_some] <;> rfl) | (simp [*, errW_none, errW_some] <;> rfl), by repeat (first | (with_reducible first | exact HB.out | apply below_alloc | apply pw_below_drewN | apply below_drew1) | exact HB.out)⟩
          ·rw [if_neg c14] at H
           exact absurd H (by simp)
         ·rw [if_neg c13] at H
          exact absurd H (by simp)
        ·rw [if_neg c12] at H
         exact absurd H (by simp)
       ·rw [if_neg c11] at H
        exact absurd H (by simp)
      ·rw [if_neg c10] at H
       exact absurd H (by simp)
     ·rw [if_neg c9] at H
      exact absurd H (by simp)
    ·rw [if_neg c7] at H
     exact absurd H (by simp)
   ·rw [if_neg c6] at H
    exact absurd H (by simp)
  ·rw [if_neg c5] at H
   exact absurd H (by simp)
 ·rw [if_neg c4] at H
  exact absurd H (by simp)

end Go.Proofs.Ytobicjobkdhelaa.Q
