/- Go functions of the seat, each with a Lean function of the same answers; no condition beside those that each theorem bears. -/
import Derived.Test.YtdbpablakhfdcaaQx0
import Derived.Test.YtdbpablakhfdcaaZp
namespace Go.Proofs.Ytdbpablakhfdcaa.Q
open Go.RowKit Go.Proofs.YtdbpablakhfdcaaW.PrintWords Go.Proofs.YtdbpablakhfdcaaW.PrintLast Go.Proofs.YtdbpablakhfdcaaW.PrintMore
attribute [local go_sem] max2_int min2_int max_two min_two max_three min_three max_four min_four
set_option linter.unusedVariables false
set_option linter.unusedSimpArgs false

/-! ### i2c_change: function 32 -/
mutual
def i2c_change.j0 : Nat → Int → Int → Bool → Option (Int)
 | 0, _, _, _ => none
 | k + 1, x0, x1, x5 => if x5 = true then (some 1) else (if (Go.bits .and .i64 x0 1) = 0 then (i2c_change.j1 k x0 x1 false) else (if (Go.bits .and .i64 x1 1) = 0 then (i2c_change.j1 k x0 x1 false) else (if (Go.bits .and .i64 x0 2) = 0 then (i2c_change.j1 k x0 x1 ((Go.bits .and .i64 x1 2) != 0)) else (i2c_change.j1 k x0 x1 false))))
def i2c_change.j1 : Nat → Int → Int → Bool → Option (Int)
 | 0, _, _, _ => none
 | k + 1, x0, x1, x24 => if x24 = true then (some 2) else (if (Go.bits .and .i64 x0 1) = 0 then (if (Go.bits .and .i64 x1 1) = 0 then (some 0) else (some 3)) else (some 0))
end
def i2c_change.f (k : Nat) (a0 : Int) (a1 : Int) : Option (Int) := if (Go.bits .and .i64 a0 1) = 0 then (i2c_change.j0 k a0 a1 false) else (if (Go.bits .and .i64 a1 1) = 0 then (i2c_change.j0 k a0 a1 false) else (if (Go.bits .and .i64 a0 2) = 0 then (i2c_change.j0 k a0 a1 false) else (i2c_change.j0 k a0 a1 ((Go.bits .and .i64 a1 2) == 0))))
theorem i2c_change.mono_l : ∀ k, (∀ y0 y1 y2, LeO (i2c_change.j0 k y0 y1 y2) (i2c_change.j0 (k + 1) y0 y1 y2)) ∧ (∀ y0 y1 y2, LeO (i2c_change.j1 k y0 y1 y2) (i2c_change.j1 (k + 1) y0 y1 y2))
 | 0 => ⟨fun _ _ _ r h => by simp [i2c_change.j0] at h, fun _ _ _ r h => by simp [i2c_change.j1] at h⟩
 | k + 1 => by
  obtain ⟨ih0, ih1⟩ := i2c_change.mono_l k; refine ⟨?_, ?_⟩
  ·intro y0 y1 y2; unfold i2c_change.j0; (repeat' first | (with_reducible first | exact ih0 _ _ _ | exact ih1 _ _ _ | exact LeO.refl _ | exact LeO.none _ | refine LeO.ite ?_ ?_ | refine LeO.bind ?_ (fun _ => ?_)))
  ·intro y0 y1 y2; unfold i2c_change.j1; (repeat' first | (with_reducible first | exact ih0 _ _ _ | exact ih1 _ _ _ | exact LeO.refl _ | exact LeO.none _ | refine LeO.ite ?_ ?_ | refine LeO.bind ?_ (fun _ => ?_)))
theorem i2c_change.mono : ∀ a0 a1 k, LeO (i2c_change.f k a0 a1) (i2c_change.f (k + 1) a0 a1) := by
 intro a0 a1 k; obtain ⟨ih0, ih1⟩ := i2c_change.mono_l k; unfold i2c_change.f; (repeat' first | (with_reducible first | exact ih0 _ _ _ | exact ih1 _ _ _ | exact LeO.refl _ | exact LeO.none _ | refine LeO.ite ?_ ?_ | refine LeO.bind ?_ (fun _ => ?_)))
set_option maxHeartbeats 8000000 in
set_option maxRecDepth 100000 in
theorem i2c_change.calls (k : Nat) (a0 : Int) (a1 : Int) (r : Int) (w : World) (h : i2c_change.f k a0 a1 = some r) :
  Calls Try.prog 32 #[.int .i64 a0, .int .i64 a1] w fun e w' => e = .returned (.int .i64 r) ∧ Drawn0 w w' := by
 have H : (if (Go.bits .and .i64 a0 1) = 0 then (i2c_change.j0 k a0 a1 false) else (if (Go.bits .and .i64 a1 1) = 0 then (i2c_change.j0 k a0 a1 false) else (if (Go.bits .and .i64 a0 2) = 0 then (i2c_change.j0 k a0 a1 false) else (i2c_change.j0 k a0 a1 ((Go.bits .and .i64 a1 2) == 0))))) = some r := h; clear h; have HC3 := aK H; clear H; go_enter Try.func32, Try.ntmps32; go_upto_region 1 with (fail); go_cut [5] (fun v5 wc => ∃ (kq : Nat) (x5_2 : Bool), v5 = .bool x5_2 ∧ Aside0 (i2c_change.j0 kq a0 a1 x5_2 = some r) ∧ Aside0 (kq ≤ k) ∧ Drawn0 w wc)
 case first =>
  have H := HC3.out; clear HC3; by_cases c4 : (Go.bits .and .i64 a0 1) = 0
  ·rw [if_pos c4] at H; have c4b0 : ((Go.bits .and .i64 a0 1) == 0) = true := beq_iff_eq.mpr c4; have c4b1 : ((Go.bits .and .i64 a0 1) != 0) = false := bne_eq_false_iff_eq.mpr c4; clear c4; (first | rw [c4b0] | (simp only [i64_w, i32_w]; rw [c4b0]) | skip); have H' := aK H; clear H; go_wp2; go_meet; (case rel => exact ⟨_, (false), zf, H', ⟨by first | omega | exact Nat.le_refl _⟩, by repeat (first | exact Drawn0.refl _ | apply Drawn0.step)⟩)
  ·rw [if_neg c4] at H; have c4b0 : ((Go.bits .and .i64 a0 1) == 0) = false := beq_eq_false_iff_ne.mpr c4; have c4b1 : ((Go.bits .and .i64 a0 1) != 0) = true := bne_iff_ne.mpr c4; (first | rw [c4b0] | (simp only [i64_w, i32_w]; rw [c4b0]) | skip); by_cases c5 : (Go.bits .and .i64 a1 1) = 0
   ·rw [if_pos c5] at H; have c5b0 : ((Go.bits .and .i64 a1 1) == 0) = true := beq_iff_eq.mpr c5; have c5b1 : ((Go.bits .and .i64 a1 1) != 0) = false := bne_eq_false_iff_eq.mpr c5; clear c5; have H' := aK H; clear H; go_wp2; go_meet; (case rel => exact ⟨_, (false), zf, H', ⟨by first | omega | exact Nat.le_refl _⟩, by repeat (first | exact Drawn0.refl _ | apply Drawn0.step)⟩)
   ·rw [if_neg c5] at H; have c5b0 : ((Go.bits .and .i64 a1 1) == 0) = false := beq_eq_false_iff_ne.mpr c5; have c5b1 : ((Go.bits .and .i64 a1 1) != 0) = true := bne_iff_ne.mpr c5; by_cases c6 : (Go.bits .and .i64 a0 2) = 0
    ·rw [if_pos c6] at H; have c6b0 : ((Go.bits .and .i64 a0 2) == 0) = true := beq_iff_eq.mpr c6; have c6b1 : ((Go.bits .and .i64 a0 2) != 0) = false := bne_eq_false_iff_eq.mpr c6; clear c6; have H' := aK H; clear H; go_wp2; go_meet; (case rel => exact ⟨_, (false), zf, H', ⟨by first | omega | exact Nat.le_refl _⟩, by repeat (first | exact Drawn0.refl _ | apply Drawn0.step)⟩)
    ·rw [if_neg c6] at H; have c6b0 : ((Go.bits .and .i64 a0 2) == 0) = false := beq_eq_false_iff_ne.mpr c6; have c6b1 : ((Go.bits .and .i64 a0 2) != 0) = true := bne_iff_ne.mpr c6; have H' := aK H; clear H; go_wp2; go_meet; (case rel => exact ⟨_, (((Go.bits .and .i64 a1 2) == 0)), zf, H', ⟨by first | omega | exact Nat.le_refl _⟩, by repeat (first | exact Drawn0.refl _ | apply Drawn0.step)⟩)
 case rest =>
  clear HC3; (try clear p2); (try clear c3); (try clear c4); (try clear c4b0); (try clear c4b1); (try clear c5); (try clear c5b0); (try clear c5b1); (try clear c6); (try clear c6b0); (try clear c6b1); obtain ⟨kq, x5_2, rfl, HA, HJ2, ⟨mc2, rfl⟩⟩ := hcut
  cases kq with
  | zero => exact absurd HA.out (by simp [i2c_change.j0])
  | succ kj2 =>
   have H := HA.out; clear HA; simp only [i2c_change.j0] at H; by_cases c7 : x5_2 = true
   ·subst c7; (have H1 : (some 1) = some r := by rw [if_pos rfl] at H; exact H); clear H; have H := H1; clear H1; obtain rfl := Option.some.inj H; go_wp2; go_ret; exact ⟨by first | rfl | (simp; done) | (simp [*]; done), by repeat (first | exact Drawn0.refl _ | apply Drawn0.step)⟩
   ·replace c7 := Bool.eq_false_iff.mpr c7; subst c7; (have H1 : (if (Go.bits .and .i64 a0 1) = 0 then (i2c_change.j1 kj2 a0 a1 false) else (if (Go.bits .and .i64 a1 1) = 0 then (i2c_change.j1 kj2 a0 a1 false) else (if (Go.bits .and .i64 a0 2) = 0 then (i2c_change.j1 kj2 a0 a1 ((Go.bits .and .i64 a1 2) != 0)) else (i2c_change.j1 kj2 a0 a1 false)))) = some r := by rw [if_neg (show ¬ (false = true) by decide)] at H; exact H); clear H; have H := H1; clear H1; have HC8 := aK H; clear H; go_upto_region 3 with (fail); go_cut [24] (fun v24 wc => ∃ (kq : Nat) (x24_7 : Bool), v24 = .bool x24_7 ∧ Aside0 (i2c_change.j1 kq a0 a1 x24_7 = some r) ∧ Aside0 (kq ≤ kj2) ∧ Drawn0 w wc)
    case first =>
     have H := HC8.out; clear HC8; by_cases c9 : (Go.bits .and .i64 a0 1) = 0
     ·rw [if_pos c9] at H; have c9b0 : ((Go.bits .and .i64 a0 1) == 0) = true := beq_iff_eq.mpr c9; have c9b1 : ((Go.bits .and .i64 a0 1) != 0) = false := bne_eq_false_iff_eq.mpr c9; clear c9; (first | rw [c9b0] | (simp only [i64_w, i32_w]; rw [c9b0]) | skip); have H' := aK H; clear H; go_wp2; go_meet; (case rel => exact ⟨_, (false), zf, H', ⟨by have := HJ2.out; first | omega | exact Nat.le_refl _⟩, by repeat (first | exact Drawn0.refl _ | apply Drawn0.step)⟩)
     ·rw [if_neg c9] at H; have c9b0 : ((Go.bits .and .i64 a0 1) == 0) = false := beq_eq_false_iff_ne.mpr c9; have c9b1 : ((Go.bits .and .i64 a0 1) != 0) = true := bne_iff_ne.mpr c9; (first | rw [c9b0] | (simp only [i64_w, i32_w]; rw [c9b0]) | skip); by_cases c10 : (Go.bits .and .i64 a1 1) = 0
      ·rw [if_pos c10] at H; have c10b0 : ((Go.bits .and .i64 a1 1) == 0) = true := beq_iff_eq.mpr c10; have c10b1 : ((Go.bits .and .i64 a1 1) != 0) = false := bne_eq_false_iff_eq.mpr c10; clear c10; have H' := aK H; clear H; go_wp2; go_meet; (case rel => exact ⟨_, (false), zf, H', ⟨by have := HJ2.out; first | omega | exact Nat.le_refl _⟩, by repeat (first | exact Drawn0.refl _ | apply Drawn0.step)⟩)
      ·rw [if_neg c10] at H; have c10b0 : ((Go.bits .and .i64 a1 1) == 0) = false := beq_eq_false_iff_ne.mpr c10; have c10b1 : ((Go.bits .and .i64 a1 1) != 0) = true := bne_iff_ne.mpr c10; by_cases c11 : (Go.bits .and .i64 a0 2) = 0
       ·rw [if_pos c11] at H; have c11b0 : ((Go.bits .and .i64 a0 2) == 0) = true := beq_iff_eq.mpr c11; have c11b1 : ((Go.bits .and .i64 a0 2) != 0) = false := bne_eq_false_iff_eq.mpr c11; clear c11; have H' := aK H; clear H; go_wp2; go_meet; (case rel => exact ⟨_, (((Go.bits .and .i64 a1 2) != 0)), zf, H', ⟨by have := HJ2.out; first | omega | exact Nat.le_refl _⟩, by repeat (first | exact Drawn0.refl _ | apply Drawn0.step)⟩)
       ·rw [if_neg c11] at H; have c11b0 : ((Go.bits .and .i64 a0 2) == 0) = false := beq_eq_false_iff_ne.mpr c11; have c11b1 : ((Go.bits .and .i64 a0 2) != 0) = true := bne_iff_ne.mpr c11; have H' := aK H; clear H; go_wp2; go_meet; (case rel => exact ⟨_, (false), zf, H', ⟨by have := HJ2.out; first | omega | exact Nat.le_refl _⟩, by repeat (first | exact Drawn0.refl _ | apply Drawn0.step)⟩)
    case rest =>
     clear HC8; (try clear c1); (try clear c2); (try clear p2); (try clear c3); (try clear c4); (try clear c4b0); (try clear c4b1); (try clear c5); (try clear c5b0); (try clear c5b1); (try clear c6); (try clear c6b0); (try clear c6b1); (try clear c7); (try clear c9); (try clear c9b0); (try clear c9b1); (try clear c10); (try clear c10b0); (try clear c10b1); (try clear c11); (try clear c11b0); (try clear c11b1); (try clear p2); obtain ⟨kq, x24_7, rfl, HA, HJ7, ⟨mc7, rfl⟩⟩ := hcut
     cases kq with
     | zero => exact absurd HA.out (by simp [i2c_change.j1])
     | succ kj7 =>
      have H := HA.out; clear HA; simp only [i2c_change.j1] at H; by_cases c12 : x24_7 = true
      ·subst c12; (have H1 : (some 2) = some r := by rw [if_pos rfl] at H; exact H); clear H; have H := H1; clear H1; obtain rfl := Option.some.inj H; go_wp2; go_ret; exact ⟨by first | rfl | (simp; done) | (simp [*]; done), by repeat (first | exact Drawn0.refl _ | apply Drawn0.step)⟩
      ·replace c12 := Bool.eq_false_iff.mpr c12; subst c12; (have H1 : (if (Go.bits .and .i64 a0 1) = 0 then (if (Go.bits .and .i64 a1 1) = 0 then (some 0) else (some 3)) else (some 0)) = some r := by rw [if_neg (show ¬ (false = true) by decide)] at H; exact H); clear H; have H := H1; clear H1; by_cases c13 : (Go.bits .and .i64 a0 1) = 0
       ·rw [if_pos c13] at H; have c13b0 : ((Go.bits .and .i64 a0 1) == 0) = true := beq_iff_eq.mpr c13; have c13b1 : ((Go.bits .and .i64 a0 1) != 0) = false := bne_eq_false_iff_eq.mpr c13; clear c13; by_cases c14 : (Go.bits .and .i64 a1 1) = 0
        ·rw [if_pos c14] at H; have c14b0 : ((Go.bits .and .i64 a1 1) == 0) = true := beq_iff_eq.mpr c14; have c14b1 : ((Go.bits .and .i64 a1 1) != 0) = false := bne_eq_false_iff_eq.mpr c14; clear c14; obtain rfl := Option.some.inj H; go_wp2; go_ret; exact ⟨by first | rfl | (simp; done) | (simp [*]; done), by repeat (first | exact Drawn0.refl _ | apply Drawn0.step)⟩
        ·rw [if_neg c14] at H; have c14b0 : ((Go.bits .and .i64 a1 1) == 0) = false := beq_eq_false_iff_ne.mpr c14; have c14b1 : ((Go.bits .and .i64 a1 1) != 0) = true := bne_iff_ne.mpr c14; obtain rfl := Option.some.inj H; go_wp2; go_ret; exact ⟨by first | rfl | (simp; done) | (simp [*]; done), by repeat (first | exact Drawn0.refl _ | apply Drawn0.step)⟩
       ·rw [if_neg c13] at H; have c13b0 : ((Go.bits .and .i64 a0 1) == 0) = false := beq_eq_false_iff_ne.mpr c13; have c13b1 : ((Go.bits .and .i64 a0 1) != 0) = true := bne_iff_ne.mpr c13; obtain rfl := Option.some.inj H; go_wp2; go_ret; exact ⟨by first | rfl | (simp; done) | (simp [*]; done), by repeat (first | exact Drawn0.refl _ | apply Drawn0.step)⟩

end Go.Proofs.Ytdbpablakhfdcaa.Q
