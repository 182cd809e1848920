/- For each Go function that the seat's laws reach: a Lean function with the same answers, and the proof that the Go code comes to them. Made by a program of this session over the translation; no condition beside those that each theorem bears. -/
import Derived.Test.YtdbbmjfiglcfhaaQx0
import Derived.Test.YtdbbmjfiglcfhaaQx7
import Derived.Test.YtdbbmjfiglcfhaaQx23
import Derived.Test.YtdbbmjfiglcfhaaQx29
import Derived.Test.YtdbbmjfiglcfhaaQx30
import Derived.Test.YtdbbmjfiglcfhaaQx33
import Derived.Test.YtdbbmjfiglcfhaaQx37
import Derived.Test.YtdbbmjfiglcfhaaQx40
namespace Go.Proofs.Ytdbbmjfiglcfhaa.Q
open Go.RowKit Go.Proofs.YtdbbmjfiglcfhaaW.PrintWords Go.Proofs.YtdbbmjfiglcfhaaW.PrintLast Go.Proofs.YtdbbmjfiglcfhaaW.PrintMore
attribute [local go_sem] max2_int min2_int max_two min_two max_three min_three max_four min_four   -- for this text's walks alone
set_option linter.unusedVariables false
set_option linter.unusedSimpArgs false

/-! ### signalbenchlaw48_MeasureTwo: function 8 -/
def signalbenchlaw48_MeasureTwo.j0 : Nat → List (S50) → List (S50) → Bool → Bool → Option (Bool)
 | 0, _, _, _, _ => none
 | k + 1, x0, x1, x2, x16 => if x16 = true then (some true) else ((measure_Setup.f k x0 x1 x2).bind fun t565 => ((signalbenchref48_Setup.f k x0 x1 x2).bind fun t568 => ((signalbenchlaw48_same.f k t565 t568).bind fun t571 => (if t571 = true then ((measure_Hold.f k x0 x1 x2).bind fun t572 => ((signalbenchref48_Hold.f k x0 x1 x2).bind fun t575 => ((signalbenchlaw48_same.f k t572 t575).bind fun t578 => (if t578 = true then ((measure_Delay.f k x0 x1 x2).bind fun t579 => ((signalbenchref48_Delay.f k x0 x1 x2).bind fun t582 => ((signalbenchlaw48_same.f k t579 t582).bind fun t585 => (some t585)))) else (none))))) else (none)))))
def signalbenchlaw48_MeasureTwo.f (k : Nat) (l0 : List (S50)) (l1 : List (S50)) (a2 : Bool) : Option (Bool) := (signalbenchlaw48_lives.f k).bind fun t564 => (if t564 = true then (if (l0.length : Int) > 400 then (signalbenchlaw48_MeasureTwo.j0 k l0 l1 a2 true) else (signalbenchlaw48_MeasureTwo.j0 k l0 l1 a2 (decide ((l1.length : Int) > 400)))) else (none))
theorem signalbenchlaw48_MeasureTwo.mono_l : ∀ k, (∀ y0 y1 y2 y3, LeO (signalbenchlaw48_MeasureTwo.j0 k y0 y1 y2 y3) (signalbenchlaw48_MeasureTwo.j0 (k + 1) y0 y1 y2 y3))
 | 0 => fun _ _ _ _ r h => by simp [signalbenchlaw48_MeasureTwo.j0] at h
 | k + 1 => by
  have ih0 := signalbenchlaw48_MeasureTwo.mono_l k
  ·intro y0 y1 y2 y3
   unfold signalbenchlaw48_MeasureTwo.j0
   repeat' first
   | (with_reducible exact ih0 _ _ _ _)
   | (with_reducible exact measure_Delay.mono _ _ _ _)
   | (with_reducible exact measure_Hold.mono _ _ _ _)
   | (with_reducible exact measure_Setup.mono _ _ _ _)
   | (with_reducible exact signalbenchlaw48_lives.mono _)
   | (with_reducible exact signalbenchlaw48_same.mono _ _ _)
   | (with_reducible exact signalbenchref48_Delay.mono _ _ _ _)
   | (with_reducible exact signalbenchref48_Hold.mono _ _ _ _)
   | (with_reducible exact signalbenchref48_Setup.mono _ _ _ _)
   | (with_reducible exact LeO.refl _)
   | (with_reducible exact LeO.none _)
   | (with_reducible refine LeO.ite ?_ ?_)
   | (with_reducible refine LeO.bind ?_ (fun _ => ?_))
   | exact ih0 _ _ _ _
   | exact measure_Delay.mono _ _ _ _
   | exact measure_Hold.mono _ _ _ _
   | exact measure_Setup.mono _ _ _ _
   | exact signalbenchlaw48_lives.mono _
   | exact signalbenchlaw48_same.mono _ _ _
   | exact signalbenchref48_Delay.mono _ _ _ _
   | exact signalbenchref48_Hold.mono _ _ _ _
   | exact signalbenchref48_Setup.mono _ _ _ _
   | exact LeO.none _
   | refine LeO.ite ?_ ?_
   | refine LeO.bind ?_ (fun _ => ?_)
theorem signalbenchlaw48_MeasureTwo.mono : ∀ a0 a1 a2 k, LeO (signalbenchlaw48_MeasureTwo.f k a0 a1 a2) (signalbenchlaw48_MeasureTwo.f (k + 1) a0 a1 a2) := by
 intro a0 a1 a2 k
 have ih0 := signalbenchlaw48_MeasureTwo.mono_l k
 unfold signalbenchlaw48_MeasureTwo.f
 repeat' first
   | (with_reducible exact ih0 _ _ _ _)
   | (with_reducible exact measure_Delay.mono _ _ _ _)
   | (with_reducible exact measure_Hold.mono _ _ _ _)
   | (with_reducible exact measure_Setup.mono _ _ _ _)
   | (with_reducible exact signalbenchlaw48_lives.mono _)
   | (with_reducible exact signalbenchlaw48_same.mono _ _ _)
   | (with_reducible exact signalbenchref48_Delay.mono _ _ _ _)
   | (with_reducible exact signalbenchref48_Hold.mono _ _ _ _)
   | (with_reducible exact signalbenchref48_Setup.mono _ _ _ _)
   | (with_reducible exact LeO.refl _)
   | (with_reducible exact LeO.none _)
   | (with_reducible refine LeO.ite ?_ ?_)
   | (with_reducible refine LeO.bind ?_ (fun _ => ?_))
   | exact ih0 _ _ _ _
   | exact measure_Delay.mono _ _ _ _
   | exact measure_Hold.mono _ _ _ _
   | exact measure_Setup.mono _ _ _ _
   | exact signalbenchlaw48_lives.mono _
   | exact signalbenchlaw48_same.mono _ _ _
   | exact signalbenchref48_Delay.mono _ _ _ _
   | exact signalbenchref48_Hold.mono _ _ _ _
   | exact signalbenchref48_Setup.mono _ _ _ _
   | exact LeO.none _
   | refine LeO.ite ?_ ?_
   | refine LeO.bind ?_ (fun _ => ?_)
set_option maxHeartbeats 8000000 in
set_option maxRecDepth 100000 in
theorem signalbenchlaw48_MeasureTwo.calls (k : Nat) (A0 : Option Addr) (c0 : Nat) (l0 : List (S50)) (A1 : Option Addr) (c1 : Nat) (l1 : List (S50)) (a2 : Bool) (r : Bool) (w : World) (hr0 : Kd.C k50 w A0 l0.length l0) (hc0 : l0.length ≤ c0) (hr1 : Kd.C k50 w A1 l1.length l1) (hc1 : l1.length ≤ c1) (h : signalbenchlaw48_MeasureTwo.f k l0 l1 a2 = some r) :
  Calls Try.prog 8 #[.slice A0 l0.length c0, .slice A1 l1.length c1, .bool a2] w fun e w' => e = .returned (.bool r) ∧ Below w.heap.size w w' := by
 have HR0 := Aside0.mk hr0
 have HC0 := Aside0.mk hc0
 clear hr0 hc0
 have HR1 := Aside0.mk hr1
 have HC1 := Aside0.mk hc1
 clear hr1 hc1
 have HB := Aside0.mk (Below.refl w.heap.size w)
 have H : ((signalbenchlaw48_lives.f k).bind fun t564 => (if t564 = true then (if (l0.length : Int) > 400 then (signalbenchlaw48_MeasureTwo.j0 k l0 l1 a2 true) else (signalbenchlaw48_MeasureTwo.j0 k l0 l1 a2 (decide ((l1.length : Int) > 400)))) else (none))) = some r := h
 clear h
 replace H := Option.bind_eq_some_iff.mp H
 obtain ⟨t564, A40, H⟩ := H
 replace H : (if t564 = true then (if (l0.length : Int) > 400 then (signalbenchlaw48_MeasureTwo.j0 k l0 l1 a2 true) else (signalbenchlaw48_MeasureTwo.j0 k l0 l1 a2 (decide ((l1.length : Int) > 400)))) else (none)) = some r := H
 have A4 := Aside0.mk A40
 clear A40
 by_cases c5 : t564 = true
 ·subst c5
  have H1 : (if (l0.length : Int) > 400 then (signalbenchlaw48_MeasureTwo.j0 k l0 l1 a2 true) else (signalbenchlaw48_MeasureTwo.j0 k l0 l1 a2 (decide ((l1.length : Int) > 400)))) = some r := by rw [if_pos rfl] at H; exact H
  clear H
  have H := H1
  clear H1
  have HC6 := Aside0.mk H
  clear H
  go_enter Try.func8, Try.ntmps8
  go_upto_region 3 with (first | ((with_reducible refine gate_callee (f := 9) rfl ?_); refine goesL_ (some 7) rfl rfl Try.func9 (by kernel_rfl) rfl #[] rfl (by (try simp only [List.map_toArray, List.map_cons, List.map_nil]); first | done | rfl | (simp only [List.length_drop, List.length_take]; rfl)) ?_; (with_reducible refine (signalbenchlaw48_lives.calls k  true _ A4.out).mono ?_); rintro e w7 ⟨rfl, hb⟩; refine ⟨_, rfl, ?_⟩; have n0_ := Aside0.mk (below_step (by repeat (first | (with_reducible first | exact HB.out | apply below_alloc | apply pw_below_drewN | apply below_drew1) | exact HB.out)) hb); clear HB; have HB := n0_; clear n0_; (try clear hb); (try clear hb2); (try clear hk); (try clear hi)))
  (try simp only [Act.put, List.setIfInBounds_toArray, List.set_cons_zero, List.set_cons_succ])
  go_cut [16] (fun v16 wc => ∃ (kq : Nat) (x16_5 : Bool), v16 = .bool x16_5 ∧ Aside0 (signalbenchlaw48_MeasureTwo.j0 kq l0 l1 a2 x16_5 = some r) ∧ Aside0 (kq ≤ k) ∧ Aside0 (Below w.heap.size w wc))
  case first =>
   have H := HC6.out
   clear HC6
   by_cases c8 : (l0.length : Int) > 400
   ·rw [if_pos c8] at H
    have c8b0 : decide (400 < (l0.length : Int)) = true := decide_eq_true c8
    have c8b1 : decide (400 < l0.length) = true := decide_eq_true (by omega)
    clear c8
    (first | rw [c8b0] | (simp only [i64_w, i32_w]; rw [c8b0]) | skip)
    have H' := Aside0.mk H
    clear H
    go_wp2
    go_meet
    case rel => exact ⟨_, (true), (by first | rfl | (simp; done) | (simp [*]; done)), H', ⟨by first | omega | exact Nat.le_refl _⟩, ⟨by repeat (first | (with_reducible first | exact HB.out | apply below_alloc | apply pw_below_drewN | apply below_drew1) | exact HB.out)⟩⟩
   ·rw [if_neg c8] at H
    have c8b0 : decide (400 < (l0.length : Int)) = false := decide_eq_false c8
    have c8b1 : decide (400 < l0.length) = false := decide_eq_false (by omega)
    clear c8
    (first | rw [c8b0] | (simp only [i64_w, i32_w]; rw [c8b0]) | skip)
    have H' := Aside0.mk H
    clear H
    go_wp2
    go_meet
    case rel => exact ⟨_, (decide ((l1.length : Int) > 400)), (by first | rfl | (simp; done) | (simp [*]; done)), H', ⟨by first | omega | exact Nat.le_refl _⟩, ⟨by repeat (first | (with_reducible first | exact HB.out | apply below_alloc | apply pw_below_drewN | apply below_drew1) | exact HB.out)⟩⟩
  case rest =>
   clear HC6
   try clear c1
   try clear p2
   try clear c5
   try clear c8
   try clear c8b0
   try clear c8b1
   obtain ⟨kq, x16_5, rfl, HA, HJ5, HB⟩ := hcut
   cases kq with
   | zero => exact absurd HA.out (by simp [signalbenchlaw48_MeasureTwo.j0])
   | succ kj5 =>
    have H := HA.out
    clear HA
    simp only [signalbenchlaw48_MeasureTwo.j0] at H
    by_cases c9 : x16_5 = true
    ·subst c9
     have H1 : (some true) = some r := by rw [if_pos rfl] at H; exact H
     clear H
     have H := H1
     clear H1
     obtain rfl := Option.some.inj H
     go_wp2
     go_ret
     exact ⟨by first | rfl | (simp [errW_none, errW_some] <;> rfl) | (simp [*, errW_none, errW_some] <;> rfl), by repeat (first | (with_reducible first | exact HB.out | apply below_alloc | apply pw_below_drewN | apply below_drew1) | exact HB.out)⟩
    ·replace c9 := Bool.eq_false_iff.mpr c9
     subst c9
     have H1 : ((measure_Setup.f kj5 l0 l1 a2).bind fun t565 => ((signalbenchref48_Setup.f kj5 l0 l1 a2).bind fun t568 => ((signalbenchlaw48_same.f kj5 t565 t568).bind fun t571 => (if t571 = true then ((measure_Hold.f kj5 l0 l1 a2).bind fun t572 => ((signalbenchref48_Hold.f kj5 l0 l1 a2).bind fun t575 => ((signalbenchlaw48_same.f kj5 t572 t575).bind fun t578 => (if t578 = true then ((measure_Delay.f kj5 l0 l1 a2).bind fun t579 => ((signalbenchref48_Delay.f kj5 l0 l1 a2).bind fun t582 => ((signalbenchlaw48_same.f kj5 t579 t582).bind fun t585 => (some t585)))) else (none))))) else (none))))) = some r := by rw [if_neg (show ¬ (false = true) by decide)] at H; exact H
     clear H
     have H := H1
     clear H1
     replace H := Option.bind_eq_some_iff.mp H
     obtain ⟨t565, A100, H⟩ := H
     replace H : ((signalbenchref48_Setup.f kj5 l0 l1 a2).bind fun t568 => ((signalbenchlaw48_same.f kj5 t565 t568).bind fun t571 => (if t571 = true then ((measure_Hold.f kj5 l0 l1 a2).bind fun t572 => ((signalbenchref48_Hold.f kj5 l0 l1 a2).bind fun t575 => ((signalbenchlaw48_same.f kj5 t572 t575).bind fun t578 => (if t578 = true then ((measure_Delay.f kj5 l0 l1 a2).bind fun t579 => ((signalbenchref48_Delay.f kj5 l0 l1 a2).bind fun t582 => ((signalbenchlaw48_same.f kj5 t579 t582).bind fun t585 => (some t585)))) else (none))))) else (none)))) = some r := H
     have A10 := Aside0.mk A100
     clear A100
     replace H := Option.bind_eq_some_iff.mp H
     obtain ⟨t568, A110, H⟩ := H
     replace H : ((signalbenchlaw48_same.f kj5 t565 t568).bind fun t571 => (if t571 = true then ((measure_Hold.f kj5 l0 l1 a2).bind fun t572 => ((signalbenchref48_Hold.f kj5 l0 l1 a2).bind fun t575 => ((signalbenchlaw48_same.f kj5 t572 t575).bind fun t578 => (if t578 = true then ((measure_Delay.f kj5 l0 l1 a2).bind fun t579 => ((signalbenchref48_Delay.f kj5 l0 l1 a2).bind fun t582 => ((signalbenchlaw48_same.f kj5 t579 t582).bind fun t585 => (some t585)))) else (none))))) else (none))) = some r := H
     have A11 := Aside0.mk A110
     clear A110
     replace H := Option.bind_eq_some_iff.mp H
     obtain ⟨t571, A120, H⟩ := H
     replace H : (if t571 = true then ((measure_Hold.f kj5 l0 l1 a2).bind fun t572 => ((signalbenchref48_Hold.f kj5 l0 l1 a2).bind fun t575 => ((signalbenchlaw48_same.f kj5 t572 t575).bind fun t578 => (if t578 = true then ((measure_Delay.f kj5 l0 l1 a2).bind fun t579 => ((signalbenchref48_Delay.f kj5 l0 l1 a2).bind fun t582 => ((signalbenchlaw48_same.f kj5 t579 t582).bind fun t585 => (some t585)))) else (none))))) else (none)) = some r := H
     have A12 := Aside0.mk A120
     clear A120
     by_cases c13 : t571 = true
     ·subst c13
      have H1 : ((measure_Hold.f kj5 l0 l1 a2).bind fun t572 => ((signalbenchref48_Hold.f kj5 l0 l1 a2).bind fun t575 => ((signalbenchlaw48_same.f kj5 t572 t575).bind fun t578 => (if t578 = true then ((measure_Delay.f kj5 l0 l1 a2).bind fun t579 => ((signalbenchref48_Delay.f kj5 l0 l1 a2).bind fun t582 => ((signalbenchlaw48_same.f kj5 t579 t582).bind fun t585 => (some t585)))) else (none))))) = some r := by rw [if_pos rfl] at H; exact H
      clear H
      have H := H1
      clear H1
      replace H := Option.bind_eq_some_iff.mp H
      obtain ⟨t572, A140, H⟩ := H
      replace H : ((signalbenchref48_Hold.f kj5 l0 l1 a2).bind fun t575 => ((signalbenchlaw48_same.f kj5 t572 t575).bind fun t578 => (if t578 = true then ((measure_Delay.f kj5 l0 l1 a2).bind fun t579 => ((signalbenchref48_Delay.f kj5 l0 l1 a2).bind fun t582 => ((signalbenchlaw48_same.f kj5 t579 t582).bind fun t585 => (some t585)))) else (none)))) = some r := H
      have A14 := Aside0.mk A140
      clear A140
      replace H := Option.bind_eq_some_iff.mp H
      obtain ⟨t575, A150, H⟩ := H
      replace H : ((signalbenchlaw48_same.f kj5 t572 t575).bind fun t578 => (if t578 = true then ((measure_Delay.f kj5 l0 l1 a2).bind fun t579 => ((signalbenchref48_Delay.f kj5 l0 l1 a2).bind fun t582 => ((signalbenchlaw48_same.f kj5 t579 t582).bind fun t585 => (some t585)))) else (none))) = some r := H
      have A15 := Aside0.mk A150
      clear A150
      replace H := Option.bind_eq_some_iff.mp H
      obtain ⟨t578, A160, H⟩ := H
      replace H : (if t578 = true then ((measure_Delay.f kj5 l0 l1 a2).bind fun t579 => ((signalbenchref48_Delay.f kj5 l0 l1 a2).bind fun t582 => ((signalbenchlaw48_same.f kj5 t579 t582).bind fun t585 => (some t585)))) else (none)) = some r := H
      have A16 := Aside0.mk A160
      clear A160
      by_cases c17 : t578 = true
      ·subst c17
       have H1 : ((measure_Delay.f kj5 l0 l1 a2).bind fun t579 => ((signalbenchref48_Delay.f kj5 l0 l1 a2).bind fun t582 => ((signalbenchlaw48_same.f kj5 t579 t582).bind fun t585 => (some t585)))) = some r := by rw [if_pos rfl] at H; exact H
       clear H
       have H := H1
       clear H1
       replace H := Option.bind_eq_some_iff.mp H
       obtain ⟨t579, A180, H⟩ := H
       replace H : ((signalbenchref48_Delay.f kj5 l0 l1 a2).bind fun t582 => ((signalbenchlaw48_same.f kj5 t579 t582).bind fun t585 => (some t585))) = some r := H
       have A18 := Aside0.mk A180
       clear A180
       replace H := Option.bind_eq_some_iff.mp H
       obtain ⟨t582, A190, H⟩ := H
       replace H : ((signalbenchlaw48_same.f kj5 t579 t582).bind fun t585 => (some t585)) = some r := H
       have A19 := Aside0.mk A190
       clear A190
       replace H := Option.bind_eq_some_iff.mp H
       obtain ⟨t585, A200, H⟩ := H
       replace H : (some t585) = some r := H
       have A20 := Aside0.mk A200
       clear A200
       obtain rfl := Option.some.inj H
       go_wp2_with (first | ((with_reducible refine gate_callee (f := 26) rfl ?_); refine goesL_ (some 20) rfl rfl Try.func26 (by kernel_rfl) rfl #[.slice A0 l0.length c0, .slice A1 l1.length c1, .bool a2] rfl (by (try simp only [List.map_toArray, List.map_cons, List.map_nil]); first | done | rfl | (simp only [List.length_drop, List.length_take]; rfl)) ?_; (with_reducible refine (measure_Setup.calls kj5 _ _ l0 _ _ l1 a2 t565 _ ?side1 ?side2 ?side3 ?side4 A10.out).mono ?_); (case side1 => repeat (first | exact (Kd.C_below HR0.out HB.out) | (with_reducible refine Kd.C_alloc ?_ _) | (with_reducible refine Kd.C_drewN ?_ _) | (with_reducible refine Kd.C_drew ?_))); (case side2 => exact HC0.out); (case side3 => repeat (first | exact (Kd.C_below HR1.out HB.out) | (with_reducible refine Kd.C_alloc ?_ _) | (with_reducible refine Kd.C_drewN ?_ _) | (with_reducible refine Kd.C_drew ?_))); (case side4 => exact HC1.out); rintro e w21 ⟨v566, rfl, ho0, hb⟩; refine ⟨_, rfl, ?_⟩; have n0_ := Aside0.mk (Kd.R_lower ho0 (below_size (by repeat (first | (with_reducible first | exact HB.out | apply below_alloc | apply pw_below_drewN | apply below_drew1) | exact HB.out)))); have n1_ := Aside0.mk (below_step (by repeat (first | (with_reducible first | exact HB.out | apply below_alloc | apply pw_below_drewN | apply below_drew1) | exact HB.out)) hb); clear HB; have HO567 := n0_; have HB := n1_; clear n0_ n1_; (try clear hb); (try clear hb2); (try clear hk); (try clear hi); (try clear ho0)) | ((with_reducible refine gate_callee (f := 31) rfl ?_); refine goesL_ (some 24) rfl rfl Try.func31 (by kernel_rfl) rfl #[.slice A0 l0.length c0, .slice A1 l1.length c1, .bool a2] rfl (by (try simp only [List.map_toArray, List.map_cons, List.map_nil]); first | done | rfl | (simp only [List.length_drop, List.length_take]; rfl)) ?_; (with_reducible refine (signalbenchref48_Setup.calls kj5 _ _ l0 _ _ l1 a2 t568 _ ?side1 ?side2 ?side3 ?side4 A11.out).mono ?_); (case side1 => repeat (first | exact (Kd.C_below HR0.out HB.out) | (with_reducible refine Kd.C_alloc ?_ _) | (with_reducible refine Kd.C_drewN ?_ _) | (with_reducible refine Kd.C_drew ?_))); (case side2 => exact HC0.out); (case side3 => repeat (first | exact (Kd.C_below HR1.out HB.out) | (with_reducible refine Kd.C_alloc ?_ _) | (with_reducible refine Kd.C_drewN ?_ _) | (with_reducible refine Kd.C_drew ?_))); (case side4 => exact HC1.out); rintro e w22 ⟨v569, rfl, ho0, hb⟩; refine ⟨_, rfl, ?_⟩; have n0_ := Aside0.mk (Kd.R_elder' (by (with_reducible repeat (first | apply Kd.R_alloc | apply Kd.R_drewN | apply Kd.R_drew)); exact HO567.out) (Kd.R_base ho0) hb); have n1_ := Aside0.mk (Kd.R_lower (Kd.R_new' ho0 (Kd.R_lt (by (with_reducible repeat (first | apply Kd.R_alloc | apply Kd.R_drewN | apply Kd.R_drew)); exact HO567.out))) (below_size (by repeat (first | (with_reducible first | exact HB.out | apply below_alloc | apply pw_below_drewN | apply below_drew1) | exact HB.out)))); have n2_ := Aside0.mk (below_step (by repeat (first | (with_reducible first | exact HB.out | apply below_alloc | apply pw_below_drewN | apply below_drew1) | exact HB.out)) hb); clear HO567; clear HB; have HO567 := n0_; have HO570 := n1_; have HB := n2_; clear n0_ n1_ n2_; (try clear hb); (try clear hb2); (try clear hk); (try clear hi); (try clear ho0); obtain ⟨Ao23, co23, eo23⟩ := Kd.R_slice HO567.out; subst eo23; obtain ⟨Ao24, co24, eo24⟩ := Kd.R_slice HO570.out; subst eo24) | ((with_reducible refine gate_callee (f := 12) rfl ?_); refine goesL_ (some 25) rfl rfl Try.func12 (by kernel_rfl) rfl #[.slice Ao23 t565.length co23, .slice Ao24 t568.length co24] rfl (by (try simp only [List.map_toArray, List.map_cons, List.map_nil]); first | done | rfl | (simp only [List.length_drop, List.length_take]; rfl)) ?_; (with_reducible refine (signalbenchlaw48_same.calls kj5 _ _ t565 _ _ t568 true _ ?side1 ?side2 ?side3 ?side4 A12.out).mono ?_); (case side1 => repeat (first | exact (Kd.R_reads' HO567.out).2.2 | (with_reducible refine Kd.C_alloc ?_ _) | (with_reducible refine Kd.C_drewN ?_ _) | (with_reducible refine Kd.C_drew ?_))); (case side2 => exact (Kd.R_reads' HO567.out).2.1); (case side3 => repeat (first | exact (Kd.R_reads' HO570.out).2.2 | (with_reducible refine Kd.C_alloc ?_ _) | (with_reducible refine Kd.C_drewN ?_ _) | (with_reducible refine Kd.C_drew ?_))); (case side4 => exact (Kd.R_reads' HO570.out).2.1); rintro e w' ⟨rfl, ⟨nd, rfl⟩⟩; refine ⟨_, rfl, ?_⟩) | (go_at_call 27; (with_reducible refine (measure_Hold.calls kj5 _ _ l0 _ _ l1 a2 t572 _ ?side1 ?side2 ?side3 ?side4 A14.out).mono ?_); (case side1 => repeat (first | exact (Kd.C_below HR0.out (by repeat (first | (with_reducible first | exact HB.out | apply below_alloc | apply pw_below_drewN | apply below_drew1) | exact HB.out))) | (with_reducible refine Kd.C_alloc ?_ _) | (with_reducible refine Kd.C_drewN ?_ _) | (with_reducible refine Kd.C_drew ?_))); (case side2 => exact HC0.out); (case side3 => repeat (first | exact (Kd.C_below HR1.out (by repeat (first | (with_reducible first | exact HB.out | apply below_alloc | apply pw_below_drewN | apply below_drew1) | exact HB.out))) | (with_reducible refine Kd.C_alloc ?_ _) | (with_reducible refine Kd.C_drewN ?_ _) | (with_reducible refine Kd.C_drew ?_))); (case side4 => exact HC1.out); rintro e w25 ⟨v573, rfl, ho0, hb⟩; have n0_ := Aside0.mk (Kd.R_elder' (by (with_reducible repeat (first | apply Kd.R_alloc | apply Kd.R_drewN | apply Kd.R_drew)); exact HO567.out) (Kd.R_base ho0) hb); have n1_ := Aside0.mk (Kd.R_elder' (by (with_reducible repeat (first | apply Kd.R_alloc | apply Kd.R_drewN | apply Kd.R_drew)); exact HO570.out) (Kd.R_base ho0) hb); have n2_ := Aside0.mk (Kd.R_lower (Kd.R_new' (Kd.R_new' ho0 (Kd.R_lt (by (with_reducible repeat (first | apply Kd.R_alloc | apply Kd.R_drewN | apply Kd.R_drew)); exact HO567.out))) (Kd.R_lt (by (with_reducible repeat (first | apply Kd.R_alloc | apply Kd.R_drewN | apply Kd.R_drew)); exact HO570.out))) (below_size (by repeat (first | (with_reducible first | exact HB.out | apply below_alloc | apply pw_below_drewN | apply below_drew1) | exact HB.out)))); have n3_ := Aside0.mk (below_step (by repeat (first | (with_reducible first | exact HB.out | apply below_alloc | apply pw_below_drewN | apply below_drew1) | exact HB.out)) hb); clear HO567; clear HO570; clear HB; have HO567 := n0_; have HO570 := n1_; have HO574 := n2_; have HB := n3_; clear n0_ n1_ n2_ n3_; (try clear hb); (try clear hb2); (try clear hk); (try clear hi); (try clear ho0)) | (go_at_call 32; (with_reducible refine (signalbenchref48_Hold.calls kj5 _ _ l0 _ _ l1 a2 t575 _ ?side1 ?side2 ?side3 ?side4 A15.out).mono ?_); (case side1 => repeat (first | exact (Kd.C_below HR0.out HB.out) | (with_reducible refine Kd.C_alloc ?_ _) | (with_reducible refine Kd.C_drewN ?_ _) | (with_reducible refine Kd.C_drew ?_))); (case side2 => exact HC0.out); (case side3 => repeat (first | exact (Kd.C_below HR1.out HB.out) | (with_reducible refine Kd.C_alloc ?_ _) | (with_reducible refine Kd.C_drewN ?_ _) | (with_reducible refine Kd.C_drew ?_))); (case side4 => exact HC1.out); rintro e w26 ⟨v576, rfl, ho0, hb⟩; have n0_ := Aside0.mk (Kd.R_elder' (by (with_reducible repeat (first | apply Kd.R_alloc | apply Kd.R_drewN | apply Kd.R_drew)); exact HO567.out) (Kd.R_base ho0) hb); have n1_ := Aside0.mk (Kd.R_elder' (by (with_reducible repeat (first | apply Kd.R_alloc | apply Kd.R_drewN | apply Kd.R_drew)); exact HO570.out) (Kd.R_base ho0) hb); have n2_ := Aside0.mk (Kd.R_elder' (by (with_reducible repeat (first | apply Kd.R_alloc | apply Kd.R_drewN | apply Kd.R_drew)); exact HO574.out) (Kd.R_base ho0) hb); have n3_ := Aside0.mk (Kd.R_lower (Kd.R_new' (Kd.R_new' (Kd.R_new' ho0 (Kd.R_lt (by (with_reducible repeat (first | apply Kd.R_alloc | apply Kd.R_drewN | apply Kd.R_drew)); exact HO567.out))) (Kd.R_lt (by (with_reducible repeat (first | apply Kd.R_alloc | apply Kd.R_drewN | apply Kd.R_drew)); exact HO570.out))) (Kd.R_lt (by (with_reducible repeat (first | apply Kd.R_alloc | apply Kd.R_drewN | apply Kd.R_drew)); exact HO574.out))) (below_size (by repeat (first | (with_reducible first | exact HB.out | apply below_alloc | apply pw_below_drewN | apply below_drew1) | exact HB.out)))); have n4_ := Aside0.mk (below_step (by repeat (first | (with_reducible first | exact HB.out | apply below_alloc | apply pw_below_drewN | apply below_drew1) | exact HB.out)) hb); clear HO567; clear HO570; clear HO574; clear HB; have HO567 := n0_; have HO570 := n1_; have HO574 := n2_; have HO577 := n3_; have HB := n4_; clear n0_ n1_ n2_ n3_ n4_; (try clear hb); (try clear hb2); (try clear hk); (try clear hi); (try clear ho0); obtain ⟨Ao27, co27, eo27⟩ := Kd.R_slice HO574.out; subst eo27; obtain ⟨Ao28, co28, eo28⟩ := Kd.R_slice HO577.out; subst eo28) | (go_at_call 12; (with_reducible refine (signalbenchlaw48_same.calls kj5 _ _ t572 _ _ t575 true _ ?side1 ?side2 ?side3 ?side4 A16.out).mono ?_); (case side1 => repeat (first | exact (Kd.R_reads' HO574.out).2.2 | (with_reducible refine Kd.C_alloc ?_ _) | (with_reducible refine Kd.C_drewN ?_ _) | (with_reducible refine Kd.C_drew ?_))); (case side2 => exact (Kd.R_reads' HO574.out).2.1); (case side3 => repeat (first | exact (Kd.R_reads' HO577.out).2.2 | (with_reducible refine Kd.C_alloc ?_ _) | (with_reducible refine Kd.C_drewN ?_ _) | (with_reducible refine Kd.C_drew ?_))); (case side4 => exact (Kd.R_reads' HO577.out).2.1); rintro e w' ⟨rfl, ⟨nd, rfl⟩⟩) | (go_at_call 33; (with_reducible refine (measure_Delay.calls kj5 _ _ l0 _ _ l1 a2 t579 _ ?side1 ?side2 ?side3 ?side4 A18.out).mono ?_); (case side1 => repeat (first | exact (Kd.C_below HR0.out (by repeat (first | (with_reducible first | exact HB.out | apply below_alloc | apply pw_below_drewN | apply below_drew1) | exact HB.out))) | (with_reducible refine Kd.C_alloc ?_ _) | (with_reducible refine Kd.C_drewN ?_ _) | (with_reducible refine Kd.C_drew ?_))); (case side2 => exact HC0.out); (case side3 => repeat (first | exact (Kd.C_below HR1.out (by repeat (first | (with_reducible first | exact HB.out | apply below_alloc | apply pw_below_drewN | apply below_drew1) | exact HB.out))) | (with_reducible refine Kd.C_alloc ?_ _) | (with_reducible refine Kd.C_drewN ?_ _) | (with_reducible refine Kd.C_drew ?_))); (case side4 => exact HC1.out); rintro e w29 ⟨v580, rfl, ho0, hb⟩; have n0_ := Aside0.mk (Kd.R_elder' (by (with_reducible repeat (first | apply Kd.R_alloc | apply Kd.R_drewN | apply Kd.R_drew)); exact HO567.out) (Kd.R_base ho0) hb); have n1_ := Aside0.mk (Kd.R_elder' (by (with_reducible repeat (first | apply Kd.R_alloc | apply Kd.R_drewN | apply Kd.R_drew)); exact HO570.out) (Kd.R_base ho0) hb); have n2_ := Aside0.mk (Kd.R_elder' (by (with_reducible repeat (first | apply Kd.R_alloc | apply Kd.R_drewN | apply Kd.R_drew)); exact HO574.out) (Kd.R_base ho0) hb); have n3_ := Aside0.mk (Kd.R_elder' (by (with_reducible repeat (first | apply Kd.R_alloc | apply Kd.R_drewN | apply Kd.R_drew)); exact HO577.out) (Kd.R_base ho0) hb); have n4_ := Aside0.mk (Kd.R_lower (Kd.R_new' (Kd.R_new' (Kd.R_new' (Kd.R_new' ho0 (Kd.R_lt (by (with_reducible repeat (first | apply Kd.R_alloc | apply Kd.R_drewN | apply Kd.R_drew)); exact HO567.out))) (Kd.R_lt (by (with_reducible repeat (first | apply Kd.R_alloc | apply Kd.R_drewN | apply Kd.R_drew)); exact HO570.out))) (Kd.R_lt (by (with_reducible repeat (first | apply Kd.R_alloc | apply Kd.R_drewN | apply Kd.R_drew)); exact HO574.out))) (Kd.R_lt (by (with_reducible repeat (first | apply Kd.R_alloc | apply Kd.R_drewN | apply Kd.R_drew)); exact HO577.out))) (below_size (by repeat (first | (with_reducible first | exact HB.out | apply below_alloc | apply pw_below_drewN | apply below_drew1) | exact HB.out)))); have n5_ := Aside0.mk (below_step (by repeat (first | (with_reducible first | exact HB.out | apply below_alloc | apply pw_below_drewN | apply below_drew1) | exact HB.out)) hb); clear HO567; clear HO570; clear HO574; clear HO577; clear HB; have HO567 := n0_; have HO570 := n1_; have HO574 := n2_; have HO577 := n3_; have HO581 := n4_; have HB := n5_; clear n0_ n1_ n2_ n3_ n4_ n5_; (try clear hb); (try clear hb2); (try clear hk); (try clear hi); (try clear ho0)) | (go_at_call 34; (with_reducible refine (signalbenchref48_Delay.calls kj5 _ _ l0 _ _ l1 a2 t582 _ ?side1 ?side2 ?side3 ?side4 A19.out).mono ?_); (case side1 => repeat (first | exact (Kd.C_below HR0.out HB.out) | (with_reducible refine Kd.C_alloc ?_ _) | (with_reducible refine Kd.C_drewN ?_ _) | (with_reducible refine Kd.C_drew ?_))); (case side2 => exact HC0.out); (case side3 => repeat (first | exact (Kd.C_below HR1.out HB.out) | (with_reducible refine Kd.C_alloc ?_ _) | (with_reducible refine Kd.C_drewN ?_ _) | (with_reducible refine Kd.C_drew ?_))); (case side4 => exact HC1.out); rintro e w30 ⟨v583, rfl, ho0, hb⟩; have n0_ := Aside0.mk (Kd.R_elder' (by (with_reducible repeat (first | apply Kd.R_alloc | apply Kd.R_drewN | apply Kd.R_drew)); exact HO567.out) (Kd.R_base ho0) hb); have n1_ := Aside0.mk (Kd.R_elder' (by (with_reducible repeat (first | apply Kd.R_alloc | apply Kd.R_drewN | apply Kd.R_drew)); exact HO570.out) (Kd.R_base ho0) hb); have n2_ := Aside0.mk (Kd.R_elder' (by (with_reducible repeat (first | apply Kd.R_alloc | apply Kd.R_drewN | apply Kd.R_drew)); exact HO574.out) (Kd.R_base ho0) hb); have n3_ := Aside0.mk (Kd.R_elder' (by (with_reducible repeat (first | apply Kd.R_alloc | apply Kd.R_drewN | apply Kd.R_drew)); exact HO577.out) (Kd.R_base ho0) hb); have n4_ := Aside0.mk (Kd.R_elder' (by (with_reducible repeat (first | apply Kd.R_alloc | apply Kd.R_drewN | apply Kd.R_drew)); exact HO581.out) (Kd.R_base ho0) hb); have n5_ := Aside0.mk (Kd.R_lower (Kd.R_new' (Kd.R_new' (Kd.R_new' (Kd.R_new' (Kd.R_new' ho0 (Kd.R_lt (by (with_reducible repeat (first | apply Kd.R_alloc | apply Kd.R_drewN | apply Kd.R_drew)); exact HO567.out))) (Kd.R_lt (by (with_reducible repeat (first | apply Kd.R_alloc | apply Kd.R_drewN | apply Kd.R_drew)); exact HO570.out))) (Kd.R_lt (by (with_reducible repeat (first | apply Kd.R_alloc | apply Kd.R_drewN | apply Kd.R_drew)); exact HO574.out))) (Kd.R_lt (by (with_reducible repeat (first | apply Kd.R_alloc | apply Kd.R_drewN | apply Kd.R_drew)); exact HO577.out))) (Kd.R_lt (by (with_reducible repeat (first | apply Kd.R_alloc | apply Kd.R_drewN | apply Kd.R_drew)); exact HO581.out))) (below_size (by repeat (first | (with_reducible first | exact HB.out | apply below_alloc | apply pw_below_drewN | apply below_drew1) | exact HB.out)))); have n6_ := Aside0.mk (below_step (by repeat (first | (with_reducible first | exact HB.out | apply below_alloc | apply pw_below_drewN | apply below_drew1) | exact HB.out)) hb); clear HO567; clear HO570; clear HO574; clear HO577; clear HO581; clear HB; have HO567 := n0_; have HO570 := n1_; have HO574 := n2_; have HO577 := n3_; have HO581 := n4_; have HO584 := n5_; have HB := n6_; clear n0_ n1_ n2_ n3_ n4_ n5_ n6_; (try clear hb); (try clear hb2); (try clear hk); (try clear hi); (try clear ho0); obtain ⟨Ao31, co31, eo31⟩ := Kd.R_slice HO581.out; subst eo31; obtain ⟨Ao32, co32, eo32⟩ := Kd.R_slice HO584.out; subst eo32) | (go_at_call 12; (with_reducible refine (signalbenchlaw48_same.calls kj5 _ _ t579 _ _ t582 t585 _ ?side1 ?side2 ?side3 ?side4 A20.out).mono ?_); (case side1 => repeat (first | exact (Kd.R_reads' HO581.out).2.2 | (with_reducible refine Kd.C_alloc ?_ _) | (with_reducible refine Kd.C_drewN ?_ _) | (with_reducible refine Kd.C_drew ?_))); (case side2 => exact (Kd.R_reads' HO581.out).2.1); (case side3 => repeat (first | exact (Kd.R_reads' HO584.out).2.2 | (with_reducible refine Kd.C_alloc ?_ _) | (with_reducible refine Kd.C_drewN ?_ _) | (with_reducible refine Kd.C_drew ?_))); (case side4 => exact (Kd.R_reads' HO584.out).2.1); rintro e w' ⟨rfl, ⟨nd, rfl⟩⟩))
       go_ret
       exact ⟨by first | rfl | (simp [errW_none, errW_some] <;> rfl) | (simp [*, errW_none, errW_some] <;> rfl), by repeat (first | (with_reducible first | exact HB.out | apply below_alloc | apply pw_below_drewN | apply below_drew1) | exact HB.out)⟩
      ·replace c17 := Bool.eq_false_iff.mpr c17
       subst c17
       have H1 : (none) = some r := by rw [if_neg (show ¬ (false = true) by decide)] at H; exact H
       clear H
       have H := H1
       clear H1
       exact absurd H (by simp)
     ·replace c13 := Bool.eq_false_iff.mpr c13
      subst c13
      have H1 : (none) = some r := by rw [if_neg (show ¬ (false = true) by decide)] at H; exact H
      clear H
      have H := H1
      clear H1
      exact absurd H (by simp)
 ·replace c5 := Bool.eq_false_iff.mpr c5
  subst c5
  have H1 : (none) = some r := by rw [if_neg (show ¬ (false = true) by decide)] at H; exact H
  clear H
  have H := H1
  clear H1
  exact absurd H (by simp)

end Go.Proofs.Ytdbbmjfiglcfhaa.Q
