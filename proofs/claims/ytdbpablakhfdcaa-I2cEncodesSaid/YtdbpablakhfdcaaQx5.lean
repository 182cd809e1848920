/- Go functions of the seat, each with a Lean function of the same answers; no condition beside those that each theorem bears. -/
import Derived.Test.YtdbpablakhfdcaaQx0
import Derived.Test.YtdbpablakhfdcaaZp
namespace Go.Proofs.Ytdbpablakhfdcaa.Q
open Go.RowKit Go.Proofs.YtdbpablakhfdcaaW.PrintWords Go.Proofs.YtdbpablakhfdcaaW.PrintLast Go.Proofs.YtdbpablakhfdcaaW.PrintMore
attribute [local go_sem] max2_int min2_int max_two min_two max_three min_three max_four min_four
set_option linter.unusedVariables false
set_option linter.unusedSimpArgs false

/-! ### i2c_change: function 32 -/
mutual
def i2c_change.j0 : Nat → Int → Int → Bool → Option (Int)
 | 0, _, _, _ => none
 | k + 1, x0, x1, x5 => if x5 = true then (some 1) else (if (Go.bits .and .i64 x0 1) = 0 then (i2c_change.j1 k x0 x1 false) else (if (Go.bits .and .i64 x1 1) = 0 then (i2c_change.j1 k x0 x1 false) else (if (Go.bits .and .i64 x0 2) = 0 then (i2c_change.j1 k x0 x1 ((Go.bits .and .i64 x1 2) != 0)) else (i2c_change.j1 k x0 x1 false))))
def i2c_change.j1 : Nat → Int → Int → Bool → Option (Int)
 | 0, _, _, _ => none
 | k + 1, x0, x1, x24 => if x24 = true then (some 2) else (if (Go.bits .and .i64 x0 1) = 0 then (if (Go.bits .and .i64 x1 1) = 0 then (some 0) else (some 3)) else (some 0))
end
def i2c_change.f (k : Nat) (a0 : Int) (a1 : Int) : Option (Int) := if (Go.bits .and .i64 a0 1) = 0 then (i2c_change.j0 k a0 a1 false) else (if (Go.bits .and .i64 a1 1) = 0 then (i2c_change.j0 k a0 a1 false) else (if (Go.bits .and .i64 a0 2) = 0 then (i2c_change.j0 k a0 a1 false) else (i2c_change.j0 k a0 a1 ((Go.bits .and .i64 a1 2) == 0))))
theorem i2c_change.mono_l : ∀ k, (∀ y0 y1 y2, LeO (i2c_change.j0 k y0 y1 y2) (i2c_change.j0 (k + 1) y0 y1 y2)) ∧ (∀ y0 y1 y2, LeO (i2c_change.j1 k y0 y1 y2) (i2c_change.j1 (k + 1) y0 y1 y2))
 | 0 => ⟨fun _ _ _ r h => by simp [i2c_change.j0] at h, fun _ _ _ r h => by simp [i2c_change.j1] at h⟩
 | k + 1 => by
  obtain ⟨ih0, ih1⟩ := i2c_change.mono_l k; refine ⟨?_, ?_⟩
  ·intro y0 y1 y2; unfold i2c_change.j0; (repeat' first | (with_reducible first | exact ih0 _ _ _ | exact ih1 _ _ _ | exact LeO.refl _ | exact LeO.none _ | refine LeO.ite ?_ ?_ | refine LeO.bind ?_ (fun _ => ?_)))
  ·intro y0 y1 y2; unfold i2c_change.j1; (repeat' first | (with_reducible first | exact ih0 _ _ _ | exact ih1 _ _ _ | exact LeO.refl _ | exact LeO.none _ | refine LeO.ite ?_ ?_ | refine LeO.bind ?_ (fun _ => ?_)))
theorem i2c_change.mono : ∀ a0 a1 k, LeO (i2c_change.f k a0 a1) (i2c_change.f (k + 1) a0 a1) := by
 intro a0 a1 k; obtain ⟨ih0, ih1⟩ := i2c_change.mono_l k; unfold i2c_change.f; (repeat' first | (with_reducible first | exact ih0 _ _ _ | exact ih1 _ _ _ | exact LeO.refl _ | exact LeO.none _ | refine LeO.ite ?_ ?_ | refine LeO.bind ?_ (fun _ => ?_)))
set_option maxHeartbeats 8000000 in
set_option maxRecDepth 100000 in
theorem i2c_change.calls (k : Nat) (a0 : Int) (a1 : Int) (r : Int) (w : World) (h : i2c_change.f k a0 a1 = some r) :
  Calls Try.prog 32 #[.int .i64 a0, .int .i64 a1] w fun e w' => e = .returned (.int .i64 r) ∧ Drawn0 w w' := by
 have H : (if (Go.bits .and .i64 a0 1) = 0 then (i2c_change.j0 k a0 a1 false) else (if (Go.bits .and .i64 a1 1) = 0 then (i2c_change.j0 k a0 a1 false) else (if (Go.bits .and .i64 a0 2) = 0 then (i2c_change.j0 k a0 a1 false) else (i2c_change.j0 k a0 a1 ((Go.bits .and .i64 a1 2) == 0))))) = some r := h; clear h; have HC3 := aK H; clear H; go_enter Try.func32, Try.ntmps32; go_upto_region 1 with (fail); go_cut [5] (fun v5 wc => ∃ (kq : Nat) (x5_2 : Bool), v5 = .bool x5_2 ∧ Aside0 (i2c_change.j0 kq a0 a1 x5_2 = some r) ∧ Aside0 (kq ≤ k) ∧ Drawn0 w wc)
 case first =>
  have H := HC3.out; clear HC3; by_cases c4 : (Go.bits .and .i64 a0 1) = 0
  ·rw [if_pos c4] at H; have c4b0 : ((Go.bits .and .i64 a0 1) == 0) = true := beq_iff_eq.mpr c4; have c4b1 : ((Go.bits .and .i64 a0 1) != 0) = false := bne_eq_false_iff_eq.mpr c4; clear c4; (first | rw [c4b0] | (simp only [i64_w, i32_w]; rw [c4b0]) | skip); have H' := aK H; clear H; go_wp2; go_meet; (case rel => exact ⟨_, (false), zf, H', ⟨by first | omega | exact Nat.le_refl _⟩, by repeat (first | exact Drawn0.refl _ | apply Drawn0.step)⟩)
  ·rw [if_neg c4] at H; have c4b0 : ((Go.bits .and .i64 a0 1) == 0) = false := beq_eq_false_iff_ne.mpr c4; have c4b1 : ((Go.bits .and .i64 a0 1) != 0) = true := bne_iff_ne.mpr c4; (first | rw [c4b0] | (simp only [i64_w, i32_w]; rw [c4b0]) | skip); by_cases c5 : (Go.bits .and .i64 a1 1) = 0
   ·rw [if_pos c5] at H; have c5b0 : ((Go.bits .and .i64 a1 1) == 0) = true := beq_iff_eq.mpr c5; have c5b1 : ((Go.bits .and .i64 a1 1) != 0) = false := bne_eq_false_iff_eq.mpr c5; clear c5; have H' := aK H; clear H; go_wp2; go_meet; (case rel => exact ⟨_, (false), zf, H', ⟨by first | omega | exact Nat.le_refl _⟩, by repeat (first | exact Drawn0.refl _ | apply Drawn0.step)⟩)
   ·rw [if_neg c5] at H; have c5b0 : ((Go.bits .and .i64 a1 1) == 0) = false := beq_eq_false_iff_ne.mpr c5; have c5b1 : ((Go.bits .and .i64 a1 1) != 0) = true := bne_iff_ne.mpr c5; by_cases c6 : (Go.bits .and .i64 a0 2) = 0
    ·rw [if_pos c6] at H; have c6b0 : ((Go.bits .and .i64 a0 2) == 0) = true := beq_iff_eq.mpr c6; have c6b1 : ((Go.bits .and .i64 a0 2) != 0) = false := bne_eq_false_iff_eq.mpr c6; clear c6; have H' := aK H; clear H; go_wp2; go_meet; (case rel => exact ⟨_, (false), zf, H', ⟨by first | omega | exact Nat.le_refl _⟩, by repeat (first | exact Drawn0.refl _ | apply Drawn0.step)⟩)
    ·rw [if_neg c6] at H; have c6b0 : ((Go.bits .and .i64 a0 2) == 0) = false := beq_eq_false_iff_ne.mpr c6; have c6b1 : ((Go.bits .and .i64 a0 2) != 0) = true := bne_iff_ne.mpr c6; have H' := aK H; clear H; go_wp2; go_meet; (case rel => exact ⟨_, (((Go.bits .and .i64 a1 2) == 0)), zf, H', ⟨by first | omega | exact Nat.le_refl _⟩, by repeat (first | exact Drawn0.refl _ | apply Drawn0.step)⟩)
 case rest =>
  clear HC3; (try clear p2); (try clear c3); (try clear c4); (try clear c4b0); (try clear c4b1); (try clear c5); (try clear c5b0); (try clear c5b1); (try clear c6); (try clear c6b0); (try clear c6b1); obtain ⟨kq, x5_2, rfl, HA, HJ2, ⟨mc2, rfl⟩⟩ := hcut
  cases kq with
  | zero => exact absurd HA.out (by simp [i2c_change.j0])
  | succ kj2 =>
   have H := HA.out; clear HA; simp only [i2c_change.j0] at H; by_cases c7 : x5_2 = true
   ·subst c7; (have H1 : (some 1) = some r := by rw [if_pos rfl] at H; exact H); clear H; have H := H1; clear H1; obtain rfl := Option.some.inj H; go_wp2; go_ret; exact ⟨by first | rfl | (simp; done) | (simp [*]; done), by repeat (first | exact Drawn0.refl _ | apply Drawn0.step)⟩
   ·replace c7 := Bool.eq_false_iff.mpr c7; subst c7; (have H1 : (if (Go.bits .and .i64 a0 1) = 0 then (i2c_change.j1 kj2 a0 a1 false) else (if (Go.bits .and .i64 a1 1) = 0 then (i2c_change.j1 kj2 a0 a1 false) else (if (Go.bits .and .i64 a0 2) = 0 then (i2c_change.j1 kj2 a0 a1 ((Go.bits .and .i64 a1 2) != 0)) else (i2c_change.j1 kj2 a0 a1 false)))) = some r := by rw [if_neg (show ¬ (false = true) by decide)] at H; exact H); clear H; have H := H1; clear H1; have HC8 := aK H; clear H; go_upto_region 3 with (fail); go_cut [24] (fun v24 wc => ∃ (kq : Nat) (x24_7 : Bool), v24 = .bool x24_7 ∧ Aside0 (i2c_change.j1 kq a0 a1 x24_7 = some r) ∧ Aside0 (kq ≤ kj2) ∧ Drawn0 w wc)
    case first =>
     have H := HC8.out; clear HC8; by_cases c9 : (Go.bits .and .i64 a0 1) = 0
     ·rw [if_pos c9] at H; have c9b0 : ((Go.bits .and .i64 a0 1) == 0) = true := beq_iff_eq.mpr c9; have c9b1 : ((Go.bits .and .i64 a0 1) != 0) = false := bne_eq_false_iff_eq.mpr c9; clear c9; (first | rw [c9b0] | (simp only [i64_w, i32_w]; rw [c9b0]) | skip); have H' := aK H; clear H; go_wp2; go_meet; (case rel => exact ⟨_, (false), zf, H', ⟨by have := HJ2.out; first | omega | exact Nat.le_refl _⟩, by repeat (first | exact Drawn0.refl _ | apply Drawn0.step)⟩)
     ·rw [if_neg c9] at H; have c9b0 : ((Go.bits .and .i64 a0 1) == 0) = false := beq_eq_false_iff_ne.mpr c9; have c9b1 : ((Go.bits .and .i64 a0 1) != 0) = true := bne_iff_ne.mpr c9; (first | rw [c9b0] | (simp only [i64_w, i32_w]; rw [c9b0]) | skip); by_cases c10 : (Go.bits .and .i64 a1 1) = 0
      ·rw [if_pos c10] at H; have c10b0 : ((Go.bits .and .i64 a1 1) == 0) = true := beq_iff_eq.mpr c10; have c10b1 : ((Go.bits .and .i64 a1 1) != 0) = false := bne_eq_false_iff_eq.mpr c10; clear c10; have H' := aK H; clear H; go_wp2; go_meet; (case rel => exact ⟨_, (false), zf, H', ⟨by have := HJ2.out; first | omega | exact Nat.le_refl _⟩, by repeat (first | exact Drawn0.refl _ | apply Drawn0.step)⟩)
      ·rw [if_neg c10] at H; have c10b0 : ((Go.bits .and .i64 a1 1) == 0) = false := beq_eq_false_iff_ne.mpr c10; have c10b1 : ((Go.bits .and .i64 a1 1) != 0) = true := bne_iff_ne.mpr c10; by_cases c11 : (Go.bits .and .i64 a0 2) = 0
       ·rw [if_pos c11] at H; have c11b0 : ((Go.bits .and .i64 a0 2) == 0) = true := beq_iff_eq.mpr c11; have c11b1 : ((Go.bits .and .i64 a0 2) != 0) = false := bne_eq_false_iff_eq.mpr c11; clear c11; have H' := aK H; clear H; go_wp2; go_meet; (case rel => exact ⟨_, (((Go.bits .and .i64 a1 2) != 0)), zf, H', ⟨by have := HJ2.out; first | omega | exact Nat.le_refl _⟩, by repeat (first | exact Drawn0.refl _ | apply Drawn0.step)⟩)
       ·rw [if_neg c11] at H; have c11b0 : ((Go.bits .and .i64 a0 2) == 0) = false := beq_eq_false_iff_ne.mpr c11; have c11b1 : ((Go.bits .and .i64 a0 2) != 0) = true := bne_iff_ne.mpr c11; have H' := aK H; clear H; go_wp2; go_meet; (case rel => exact ⟨_, (false), zf, H', ⟨by have := HJ2.out; first | omega | exact Nat.le_refl _⟩, by repeat (first | exact Drawn0.refl _ | apply Drawn0.step)⟩)
    case rest =>
     clear HC8; (try clear c1); (try clear c2); (try clear p2); (try clear c3); (try clear c4); (try clear c4b0); (try clear c4b1); (try clear c5); (try clear c5b0); (try clear c5b1); (try clear c6); (try clear c6b0); (try clear c6b1); (try clear c7); (try clear c9); (try clear c9b0); (try clear c9b1); (try clear c10); (try clear c10b0); (try clear c10b1); (try clear c11); (try clear c11b0); (try clear c11b1); (try clear p2); obtain ⟨kq, x24_7, rfl, HA, HJ7, ⟨mc7, rfl⟩⟩ := hcut
     cases kq with
     | zero => exact absurd HA.out (by simp [i2c_change.j1])
     | succ kj7 =>
      have H := HA.out; clear HA; simp only [i2c_change.j1] at H; by_cases c12 : x24_7 = true
      ·subst c12; (have H1 : (some 2) = some r := by rw [if_pos rfl] at H; exact H); clear H; have H := H1; clear H1; obtain rfl := Option.some.inj H; go_wp2; go_ret; exact ⟨by first | rfl | (simp; done) | (simp [*]; done), by repeat (first | exact Drawn0.refl _ | apply Drawn0.step)⟩
      ·replace c12 := Bool.eq_false_iff.mpr c12; subst c12; (have H1 : (if (Go.bits .and .i64 a0 1) = 0 then (if (Go.bits .and .i64 a1 1) = 0 then (some 0) else (some 3)) else (some 0)) = some r := by rw [if_neg (show ¬ (false = true) by decide)] at H; exact H); clear H; have H := H1; clear H1; by_cases c13 : (Go.bits .and .i64 a0 1) = 0
       ·rw [if_pos c13] at H; have c13b0 : ((Go.bits .and .i64 a0 1) == 0) = true := beq_iff_eq.mpr c13; have c13b1 : ((Go.bits .and .i64 a0 1) != 0) = false := bne_eq_false_iff_eq.mpr c13; clear c13; by_cases c14 : (Go.bits .and .i64 a1 1) = 0
        ·rw [if_pos c14] at H; have c14b0 : ((Go.bits .and .i64 a1 1) == 0) = true := beq_iff_eq.mpr c14; have c14b1 : ((Go.bits .and .i64 a1 1) != 0) = false := bne_eq_false_iff_eq.mpr c14; clear c14; obtain rfl := Option.some.inj H; go_wp2; go_ret; exact ⟨by first | rfl | (simp; done) | (simp [*]; done), by repeat (first | exact Drawn0.refl _ | apply Drawn0.step)⟩
        ·rw [if_neg c14] at H; have c14b0 : ((Go.bits .and .i64 a1 1) == 0) = false := beq_eq_false_iff_ne.mpr c14; have c14b1 : ((Go.bits .and .i64 a1 1) != 0) = true := bne_iff_ne.mpr c14; obtain rfl := Option.some.inj H; go_wp2; go_ret; exact ⟨by first | rfl | (simp; done) | (simp [*]; done), by repeat (first | exact Drawn0.refl _ | apply Drawn0.step)⟩
       ·rw [if_neg c13] at H; have c13b0 : ((Go.bits .and .i64 a0 1) == 0) = false := beq_eq_false_iff_ne.mpr c13; have c13b1 : ((Go.bits .and .i64 a0 1) != 0) = true := bne_iff_ne.mpr c13; obtain rfl := Option.some.inj H; go_wp2; go_ret; exact ⟨by first | rfl | (simp; done) | (simp [*]; done), by repeat (first | exact Drawn0.refl _ | apply Drawn0.step)⟩

/-! ### r23_Levels: function 43 -/
def r23_Levels.l0 : Nat → List (S53) → List (S27) → Int → Int → Option ((List (S27)))
 | 0, _, _, _, _ => none
 | k + 1, x0, x3, x4, x5 => if x5 < (x0.length : Int) then (if 0 ≤ x5 then (if x3.length < 2199023255552 then (r23_Levels.l0 k x0 (x3 ++ [(⟨1, x4, wrap64 (x4 + ((rd_T53 x0 x5).f1)), (rd_T53 x0 x5).f0, 0, (⟨#[]⟩ : ByteArray), 0⟩ : S27)]) (wrap64 (x4 + ((rd_T53 x0 x5).f1))) (wrap64 (x5 + 1))) else (none)) else (none)) else (some x3)
def r23_Levels.f (k : Nat) (l0 : List (S53)) : Option ((List (S27))) := if 0 ≤ (l0.length : Int) then (if ((l0.length : Int) : Int).toNat ≤ 4398046511104 then (r23_Levels.l0 k l0 (List.replicate 0 z27) 0 0) else (none)) else (none)
theorem r23_Levels.mono_l : ∀ k, (∀ y0 y1 y2 y3, LeO (r23_Levels.l0 k y0 y1 y2 y3) (r23_Levels.l0 (k + 1) y0 y1 y2 y3))
 | 0 => fun _ _ _ _ r h => by simp [r23_Levels.l0] at h
 | k + 1 => by
  have ih0 := r23_Levels.mono_l k
  ·intro y0 y1 y2 y3; unfold r23_Levels.l0; (repeat' first | (with_reducible first | exact ih0 _ _ _ _ | exact LeO.refl _ | exact LeO.none _ | refine LeO.ite ?_ ?_ | refine LeO.bind ?_ (fun _ => ?_)))
theorem r23_Levels.mono : ∀ a0 k, LeO (r23_Levels.f k a0) (r23_Levels.f (k + 1) a0) := by
 intro a0 k; have ih0 := r23_Levels.mono_l k; unfold r23_Levels.f; (repeat' first | (with_reducible first | exact ih0 _ _ _ _ | exact LeO.refl _ | exact LeO.none _ | refine LeO.ite ?_ ?_ | refine LeO.bind ?_ (fun _ => ?_)))
def r23_Levels.T6 : Bool × List (List Nat × List Nat) := (true, [([], []), ([], []), ([], []), ([], []), ([], []), ([3, 4], [3, 4]), ([5], [5]), ([6], [6]), ([2, 7], [2, 7]), ([], []), ([], []), ([9, 10], [9, 10]), ([11], [11]), ([12], [12]), ([1, 8, 13], [1, 8, 13]), ([14], [14]), ([0, 15], [0, 15]), ([16, 16, 0, 1, 2, 3, 4, 5, 6, 7, 8, 9, 10, 11, 12, 13, 14, 15, 16], [0, 16])])
def r23_Levels.B6 : List Nat := [0, 0, 0, 0, 0, 24, 56, 120, 252, 0, 0, 1536, 3584, 7680, 16382, 32766, 65535, 131071]
theorem r23_Levels.tab6 : rtab .any (opsOf Try.f43 6) = r23_Levels.T6 := by kernel_rfl
theorem r23_Levels.bits6 : waitsOk r23_Levels.T6.2 r23_Levels.B6 = true := by kernel_rfl
set_option maxHeartbeats 8000000 in
set_option maxRecDepth 100000 in
theorem r23_Levels.calls (k : Nat) (A0 : Option Addr) (c0 : Nat) (l0 : List (S53)) (r : List (S27)) (w : World) (hr0 : Kd.C k53 w A0 l0.length l0) (hc0 : l0.length ≤ c0) (h : r23_Levels.f k l0 = some r) :
  Calls Try.prog 43 #[.slice A0 l0.length c0] w fun e w' => ∃ v0_ : Value, e = .returned (v0_) ∧ Kd.R k27 27 w' w.heap.size (fun _ => True) v0_ r ∧ Below w.heap.size w w' := by
 have hu27 := Try.underlying27; have HR0 := aK hr0; have HC0 := aK hc0; clear hr0 hc0; have HB := aK (Below.refl w.heap.size w); have H : (if 0 ≤ (l0.length : Int) then (if ((l0.length : Int) : Int).toNat ≤ 4398046511104 then (r23_Levels.l0 k l0 (List.replicate 0 z27) 0 0) else (none)) else (none)) = some r := h; clear h; by_cases c2 : 0 ≤ (l0.length : Int)
 ·rw [if_pos c2] at H; have c2b0 := eq_true c2; have c2b1 : decide (0 ≤ (l0.length : Int)) = true := decide_eq_true c2; clear c2; by_cases c3 : ((l0.length : Int) : Int).toNat ≤ 4398046511104
  ·rw [if_pos c3] at H; have c3b0 := eq_true c3; have c3b1 : decide (((l0.length : Int) : Int).toNat ≤ 4398046511104) = true := decide_eq_true c3; clear c3; obtain ⟨y449, hy449⟩ : ∃ y_ : List (S27), y_ = (List.replicate 0 z27) := ⟨_, rfl⟩; (replace H : (r23_Levels.l0 k l0 y449 0 0) = some r := by first | (rw [hy449]; with_reducible exact H) | (have H2_ := (Option.bind_some _ _).symm.trans H; rw [hy449]; with_reducible exact H2_) | (have H2_ := (Option.bind_some _ _).symm.trans H; with_reducible exact H2_) | with_reducible exact H | (rw [hy449]; exact H) | exact H); have Ny449 := aK hy449; clear hy449; have H' := aK H; clear H; go_enter Try.func43, Try.ntmps43; go_wp2_with (first | ((with_reducible refine gate_dst (N := 8) rfl ?_); refine Kd.R_makecap k27 _ 27 rfl (N := 8) rfl 31 _ _ rfl 0 (l0.length : Int) rfl rfl Try.underlying31 (.agg #[(.int .i64 0), (.int .i64 0), (.int .i64 0), (.int .i64 0), (.int .i64 0), (.string ⟨#[]⟩), (.int .i64 0)]) 64 info27 rfl (by decide) (by omega) z27 (ok := fun _ => True) (okp := fun _ => True) (k27_mkM _ _ _ z27 ) (fun _ hk => hk) trivial (by have h_ : (0 : Int) ≤ (l0.length : Int) := oD; exact h_) (Nat.le_trans (Nat.mul_le_mul_right _ (oD : (l0.length : Int).toNat ≤ 4398046511104)) (by omega)) (Below.refl _ _) (Nat.le_refl _) ?_; intro v450 w4 ho5 hb hg_ hnew_; clear hg_ hnew_; (first | rw [← Ny449.out] at ho5 | (simp only [Int.reduceToNat] at ho5; rw [← Ny449.out] at ho5)); have n_ := aN (Kd.R_lower ho5 (below_size (bS HB.out))) <| aK (below_step (bS HB.out) hb); clear HB; obtain ⟨HO451, HB⟩ := n_; clear hb ho5)); go_loopg [3, 4, 5] k (fun kq v3 v4 v5 w' => ∃ (x3_1 : List (S27)) (x4_1 : Int) (x5_1 : Int), v4 = .int .i64 x4_1 ∧ v5 = .int .i64 x5_1 ∧ Aside0 (r23_Levels.l0 kq l0 x3_1 x4_1 x5_1 = some r) ∧ Aside0 (kq ≤ k) ∧ Aside0 (Kd.R k27 27 w' w.heap.size (fun _ => True) v3 x3_1) ∧ Aside0 (Below w.heap.size w w')); (case atStart => exact ⟨(y449), (0), (0), zf, zf, H', ⟨Nat.le_refl _⟩, ⟨rS HO451.out⟩, ⟨bS HB.out⟩⟩)
   case round =>
    clear H'; (try clear c2); (try clear c2b0); (try clear c2b1); (try clear p2); (try clear c3); (try clear c3b0); (try clear c3b1); (try clear c4); obtain ⟨x3_1, x4_1, x5_1, rfl, rfl, HA, HK1, HO_3, HB⟩ := hrel
    cases gk with
    | zero => exact absurd HA.out (by simp [r23_Levels.l0])
    | succ k1 =>
     have H := HA.out; clear HA; simp only [r23_Levels.l0] at H; by_cases c6 : x5_1 < (l0.length : Int)
     ·rw [if_pos c6] at H; have c6b0 : decide (x5_1 < (l0.length : Int)) = true := decide_eq_true c6; clear c6; by_cases c7 : 0 ≤ x5_1
      ·rw [if_pos c7] at H; have c7b0 : decide (0 ≤ x5_1) = true := decide_eq_true c7; clear c7; by_cases c8 : x3_1.length < 2199023255552
       ·rw [if_pos c8] at H; have LMc8 := aK c8; clear c8; obtain ⟨y454, hy454⟩ : ∃ y_ : List (S27), y_ = (x3_1 ++ [(⟨1, x4_1, wrap64 (x4_1 + ((rd_T53 l0 x5_1).f1)), (rd_T53 l0 x5_1).f0, 0, (⟨#[]⟩ : ByteArray), 0⟩ : S27)]) := ⟨_, rfl⟩; (replace H : (r23_Levels.l0 k1 l0 y454 (wrap64 (x4_1 + ((rd_T53 l0 x5_1).f1))) (wrap64 (x5_1 + 1))) = some r := by first | (rw [hy454]; with_reducible exact H) | (have H2_ := (Option.bind_some _ _).symm.trans H; rw [hy454]; with_reducible exact H2_) | (have H2_ := (Option.bind_some _ _).symm.trans H; with_reducible exact H2_) | with_reducible exact H | (rw [hy454]; exact H) | exact H); have Ny454 := aK hy454; clear hy454; have H' := aK H; clear H; (try go_wp2); have n_ := aN (Kd.R_drew HO_3.out) <| aK (below_drew1 HB.out); clear HO_3 HB; obtain ⟨HO_3, HB⟩ := n_; have p452 : 0 ≤ (x5_1 : Int) := oD; have q452 : x5_1 < (l0.length : Int) := oD; obtain ⟨ad452, e452, hx452_0, hx452_1⟩ := at_T53 HR0.out x5_1 p452 q452; have hw452_1 := hx452_1; have hw452_0 := hx452_0; cases e452; replace hx452_0 := (HB.out.cell (World.block_lt_of_cell? w _ hx452_0)).trans hx452_0; replace hx452_1 := (HB.out.cell (World.block_lt_of_cell? w _ hx452_1)).trans hx452_1; replace p452 := eq_true p452; replace q452 := eq_true q452; have p453 : 0 ≤ (x5_1 : Int) := oD; have q453 : x5_1 < (l0.length : Int) := oD; obtain ⟨ad453, e453, hx453_0, hx453_1⟩ := at_T53 HR0.out x5_1 p453 q453; have hw453_1 := hx453_1; have hw453_0 := hx453_0; obtain rfl : ad452 = ad453 := (by injection e453); replace hx453_0 := (HB.out.cell (World.block_lt_of_cell? w _ hx453_0)).trans hx453_0; replace hx453_1 := (HB.out.cell (World.block_lt_of_cell? w _ hx453_1)).trans hx453_1; replace p453 := eq_true p453; replace q453 := eq_true q453; refine start_ (n := 18) (S := fun w' => w'.cell? (ad452.add ((x5_1).toNat * 2)) = some (.int .i64 ((rd_T53 l0 x5_1).f0)) ∧ w'.cell? ⟨(ad452.add ((x5_1).toNat * 2)).block, (ad452.add ((x5_1).toNat * 2)).off + 1, none⟩ = some (.int .i64 ((rd_T53 l0 x5_1).f1)) ∧ w'.cell? (ad452.add ((x5_1).toNat * 2)) = some (.int .i64 ((rd_T53 l0 x5_1).f0)) ∧ w'.cell? ⟨(ad452.add ((x5_1).toNat * 2)).block, (ad452.add ((x5_1).toNat * 2)).off + 1, none⟩ = some (.int .i64 ((rd_T53 l0 x5_1).f1))) (ds := []) #[false, false, false, false, false, false, false, false, false, false, false, false, false, false, false, false, false, false] (by kernel_rfl) rfl rfl ⟨((HB.out.cell (World.block_lt_of_cell? w _ hw452_0)).trans hw452_0), ((HB.out.cell (World.block_lt_of_cell? w _ hw452_1)).trans hw452_1), ((HB.out.cell (World.block_lt_of_cell? w _ hw453_0)).trans hw453_0), ((HB.out.cell (World.block_lt_of_cell? w _ hw453_1)).trans hw453_1)⟩ (fun hHeld => ?_); refine with_tabW r23_Levels.tab6 r23_Levels.bits6 (fun HT_ HW_ => ?_); generalize wr.drew = w9 at HO_3 HB hx452_0 hx452_1 hx453_0 hx453_1 hHeld ⊢; refine pT HT_ 0 15 (bz 18 1) ?_
        refine pT HT_ 1 16 (bz 18 3) ?_
        refine pT HT_ 2 17 (bz 18 7) ?_
        refine pT HT_ 3 18 (bz 18 15) ?_
        refine pT HT_ 4 19 (bz 18 31) ?_
        refine pT HT_ 5 20 (bz 18 63) ?_
        refine pT HT_ 6 21 (bz 18 127) ?_
        refine pT HT_ 9 24 (bz 18 639) ?_
        refine pT HT_ 10 25 (bz 18 1663) ?_
        refine pT HT_ 11 26 (bz 18 3711) ?_
        refine pT HT_ 12 27 (bz 18 7807) ?_
        refine tT HT_ HW_ 7 22 (bz 18 7935) rfl rfl hHeld (Or.inl ⟨by rfl, by rintro w' ⟨s0, s1, s2, s3⟩; go_simp; with_reducible rfl⟩) ?_
        refine pT HT_ 8 23 (bz 18 8191) ?_
        refine tT HT_ HW_ 13 28 (bz 18 16383) rfl rfl hHeld (Or.inl ⟨by rfl, by rintro w' ⟨s0, s1, s2, s3⟩; go_simp; with_reducible rfl⟩) ?_
        refine pT HT_ 14 29 (bz 18 32767) ?_
        refine one_ (i := 15) (N := some 30) #[true, true, true, true, true, true, true, true, true, true, true, true, true, true, true, true, false, false] rfl rfl (one_of HT_.out (by kernel_rfl)) (by decide) (fun K hK => ?_); refine value_ (w1 := ?_) (v := ?_) (by rfl) rfl ?_ ?_; rotate_left 2
        ·go_simp; constructor
         ·rfl
         ·rfl
        refine hK.out _ _ ⟨(World.cell?_alloc_lt _ _ _ (World.block_lt_of_cell? _ _ (((HB.out.cell (World.block_lt_of_cell? w _ hw452_0)).trans hw452_0)))).trans (((HB.out.cell (World.block_lt_of_cell? w _ hw452_0)).trans hw452_0)), (World.cell?_alloc_lt _ _ _ (World.block_lt_of_cell? _ _ (((HB.out.cell (World.block_lt_of_cell? w _ hw452_1)).trans hw452_1)))).trans (((HB.out.cell (World.block_lt_of_cell? w _ hw452_1)).trans hw452_1)), (World.cell?_alloc_lt _ _ _ (World.block_lt_of_cell? _ _ (((HB.out.cell (World.block_lt_of_cell? w _ hw453_0)).trans hw453_0)))).trans (((HB.out.cell (World.block_lt_of_cell? w _ hw453_0)).trans hw453_0)), (World.cell?_alloc_lt _ _ _ (World.block_lt_of_cell? _ _ (((HB.out.cell (World.block_lt_of_cell? w _ hw453_1)).trans hw453_1)))).trans (((HB.out.cell (World.block_lt_of_cell? w _ hw453_1)).trans hw453_1))⟩ (fun hHeld => ?_); clear hK K; refine norm_ (a' := ?_) ?_ ?_; rotate_left
        ·(show Act.put _ (some 30) _ = _); simp only [Act.put, sA, sZ, sU, i64_w, i32_w]; rfl
        refine one_ (i := 16) (N := some 31) #[true, true, true, true, true, true, true, true, true, true, true, true, true, true, true, true, true, false] rfl rfl (one_of HT_.out (by kernel_rfl)) (by decide) (fun K hK => ?_); refine Kd.R_append_step k27 (w0 := w) w.heap.size (by rfl) (.tmp 15) (.tmp 30) 31 27 (.agg #[(.int .i64 0), (.int .i64 0), (.int .i64 0), (.int .i64 0), (.int .i64 0), (.string ⟨#[]⟩), (.int .i64 0)]) 64 rfl Try.underlying31 info27 rfl (by decide) (by omega) u3 x3_1 (⟨1, x4_1, wrap64 (x4_1 + ((rd_T53 l0 x5_1).f1)), (rd_T53 l0 x5_1).f0, 0, (⟨#[]⟩ : ByteArray), 0⟩ : S27) [.int .i64 1, .int .i64 x4_1, .int .i64 (wrap64 (x4_1 + ((rd_T53 l0 x5_1).f1))), .int .i64 ((rd_T53 l0 x5_1).f0), .int .i64 0, .string (⟨#[]⟩ : ByteArray), .int .i64 0] (fun _ => True) (fun _ => False) rfl rfl ?aP (fun _ hk => hk.elim) ?aF ?aO ?aB ?aS ?aL ?_; (case aP => exact k27_mkM _ _ _ (⟨1, x4_1, wrap64 (x4_1 + ((rd_T53 l0 x5_1).f1)), (rd_T53 l0 x5_1).f0, 0, (⟨#[]⟩ : ByteArray), 0⟩ : S27)); (case aB => exact (bS HB.out)); (case aF => exact (fun _ _ => trivial)); (case aO => exact (rS HO_3.out)); (case aS => exact (below_size (bS HB.out))); (case aL => have := LMc8.out; omega); intro v455 w10 ho hb hg hat; rw [← Ny454.out] at ho; have n_ := aN (hb) <| aK (ho); clear HB HO_3; obtain ⟨HB, HO456⟩ := n_; clear ho hb hg hat; refine hK.out _ _ ⟨((HB.out.cell (World.block_lt_of_cell? w _ hw452_0)).trans hw452_0), ((HB.out.cell (World.block_lt_of_cell? w _ hw452_1)).trans hw452_1), ((HB.out.cell (World.block_lt_of_cell? w _ hw453_0)).trans hw453_0), ((HB.out.cell (World.block_lt_of_cell? w _ hw453_1)).trans hw453_1)⟩ (fun hHeld => ?_); clear hK K; refine norm_ (a' := ?_) ?_ ?_; rotate_left
        ·(show Act.put _ (some 31) _ = _); simp only [Act.put, sA, sZ, sU, i64_w, i32_w]; rfl
        refine pT HT_ 17 3 (bz 18 262143) ?_
        refine done_ (done_of HT_.out (by kernel_rfl)) ?_; have p457 : 0 ≤ (x5_1 : Int) := oD; have q457 : x5_1 < (l0.length : Int) := oD; obtain ⟨ad457, e457, hx457_0, hx457_1⟩ := at_T53 HR0.out x5_1 p457 q457; obtain rfl : ad452 = ad457 := (by injection e457); replace hx457_0 := (HB.out.cell (World.block_lt_of_cell? w _ hx457_0)).trans hx457_0; replace hx457_1 := (HB.out.cell (World.block_lt_of_cell? w _ hx457_1)).trans hx457_1; replace p457 := eq_true p457; replace q457 := eq_true q457; (try go_wp2); go_roundg k1; (case measure => have := HK1.out; omega); (case rel => exact ⟨(y454), (wrap64 (x4_1 + ((rd_T53 l0 x5_1).f1))), (wrap64 (x5_1 + 1)), zf, zf, H', ⟨by have := HK1.out; omega⟩, ⟨rS HO456.out⟩, ⟨bS HB.out⟩⟩)
       ·rw [if_neg c8] at H; exact absurd H (by simp)
      ·rw [if_neg c7] at H; exact absurd H (by simp)
     ·rw [if_neg c6] at H; have c6b0 : decide (x5_1 < (l0.length : Int)) = false := decide_eq_false c6; clear c6; obtain rfl := Option.some.inj H; go_wp2; go_ret; exact ⟨_, zw, rS HO_3.out, bS HB.out⟩
  ·rw [if_neg c3] at H; exact absurd H (by simp)
 ·rw [if_neg c2] at H; exact absurd H (by simp)

end Go.Proofs.Ytdbpablakhfdcaa.Q
