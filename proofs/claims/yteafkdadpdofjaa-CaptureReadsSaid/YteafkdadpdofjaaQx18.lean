/- Go functions of the seat, each with a Lean function of the same answers; no condition beside those that each theorem bears. -/
import Derived.Test.YteafkdadpdofjaaQx0
import Derived.Test.YteafkdadpdofjaaQx17
namespace Go.Proofs.Yteafkdadpdofjaa.Q
open Go.RowKit Go.Proofs.YteafkdadpdofjaaW.PrintWords Go.Proofs.YteafkdadpdofjaaW.PrintLast Go.Proofs.YteafkdadpdofjaaW.PrintMore
attribute [local go_sem] max2_int min2_int max_two min_two max_three min_three max_four min_four
set_option linter.unusedVariables false
set_option linter.unusedSimpArgs false

/-! ### rf_Part: function 48 -/
def rf_Part.l0 : Nat → List (S48) → Int → Int → List (S48) → Int → Int → Option ((List (S48)))
 | 0, _, _, _, _, _, _ => none
 | k + 1, x0, x1, x2, x7, x8, x9 => if x9 < (x0.length : Int) then (if 0 ≤ x9 then (if x8 < x1 then (if (wrap64 (x8 + ((rd_T48 x0 x9).f1))) > x2 then ((rf_put.f x7 ((rd_T48 x0 x9).f0) (wrap64 (x2 - x1))).bind fun t282 => (rf_Part.l0 k x0 x1 x2 t282 (wrap64 (x8 + ((rd_T48 x0 x9).f1))) (wrap64 (x9 + 1)))) else ((rf_put.f x7 ((rd_T48 x0 x9).f0) (wrap64 ((wrap64 (x8 + ((rd_T48 x0 x9).f1))) - x1))).bind fun t287 => (rf_Part.l0 k x0 x1 x2 t287 (wrap64 (x8 + ((rd_T48 x0 x9).f1))) (wrap64 (x9 + 1))))) else (if (wrap64 (x8 + ((rd_T48 x0 x9).f1))) > x2 then ((rf_put.f x7 ((rd_T48 x0 x9).f0) (wrap64 (x2 - x8))).bind fun t292 => (rf_Part.l0 k x0 x1 x2 t292 (wrap64 (x8 + ((rd_T48 x0 x9).f1))) (wrap64 (x9 + 1)))) else ((rf_put.f x7 ((rd_T48 x0 x9).f0) (wrap64 ((wrap64 (x8 + ((rd_T48 x0 x9).f1))) - x8))).bind fun t297 => (rf_Part.l0 k x0 x1 x2 t297 (wrap64 (x8 + ((rd_T48 x0 x9).f1))) (wrap64 (x9 + 1)))))) else (none)) else (some x7)
def rf_Part.f (k : Nat) (l0 : List (S48)) (a1 : Int) (a2 : Int) : Option ((List (S48))) := rf_Part.l0 k l0 a1 a2 (([] : List (S48))) 0 0
theorem rf_Part.mono_l : ∀ k, (∀ y0 y1 y2 y3 y4 y5, LeO (rf_Part.l0 k y0 y1 y2 y3 y4 y5) (rf_Part.l0 (k + 1) y0 y1 y2 y3 y4 y5))
 | 0 => fun _ _ _ _ _ _ r h => by simp [rf_Part.l0] at h
 | k + 1 => by
  have ih0 := rf_Part.mono_l k
  ·intro y0 y1 y2 y3 y4 y5
   unfold rf_Part.l0
   repeat' first
   | (with_reducible exact ih0 _ _ _ _ _ _)
   | (with_reducible exact LeO.refl _)
   | (with_reducible exact LeO.none _)
   | (with_reducible refine LeO.ite ?_ ?_)
   | (with_reducible refine LeO.bind ?_ (fun _ => ?_))
   | exact ih0 _ _ _ _ _ _
   | exact LeO.none _
   | refine LeO.ite ?_ ?_
   | refine LeO.bind ?_ (fun _ => ?_)
theorem rf_Part.mono : ∀ a0 a1 a2 k, LeO (rf_Part.f k a0 a1 a2) (rf_Part.f (k + 1) a0 a1 a2) := by
 intro a0 a1 a2 k
 have ih0 := rf_Part.mono_l k
 unfold rf_Part.f
 repeat' first
   | (with_reducible exact ih0 _ _ _ _ _ _)
   | (with_reducible exact LeO.refl _)
   | (with_reducible exact LeO.none _)
   | (with_reducible refine LeO.ite ?_ ?_)
   | (with_reducible refine LeO.bind ?_ (fun _ => ?_))
   | exact ih0 _ _ _ _ _ _
   | exact LeO.none _
   | refine LeO.ite ?_ ?_
   | refine LeO.bind ?_ (fun _ => ?_)
set_option maxHeartbeats 8000000 in
set_option maxRecDepth 100000 in
theorem rf_Part.calls (k : Nat) (A0 : Option Addr) (c0 : Nat) (l0 : List (S48)) (a1 : Int) (a2 : Int) (r : List (S48)) (w : World) (hr0 : Kd.C k48 w A0 l0.length l0) (hc0 : l0.length ≤ c0) (h : rf_Part.f k l0 a1 a2 = some r) :
  Calls Try.prog 48 #[.slice A0 l0.length c0, .int .i64 a1, .int .i64 a2] w fun e w' => ∃ v0_ : Value, e = .returned (v0_) ∧ Kd.R k48 48 w' w.heap.size (fun _ => True) v0_ r ∧ Below w.heap.size w w' := by
 have hu48 := Try.underlying48
 have HR0 := Aside0.mk hr0
 have HC0 := Aside0.mk hc0
 clear hr0 hc0
 have HB := Aside0.mk (Below.refl w.heap.size w)
 have H : (rf_Part.l0 k l0 a1 a2 (([] : List (S48))) 0 0) = some r := h
 clear h
 obtain ⟨y277, hy277⟩ : ∃ y_ : List (S48), y_ = (([] : List (S48))) := ⟨_, rfl⟩
 replace H : (rf_Part.l0 k l0 a1 a2 y277 0 0) = some r := by first | (rw [hy277]; with_reducible exact H) | (have H2_ := (Option.bind_some _ _).symm.trans H; rw [hy277]; with_reducible exact H2_) | (have H2_ := (Option.bind_some _ _).symm.trans H; with_reducible exact H2_) | with_reducible exact H | (rw [hy277]; exact H) | exact H
 have Ny277 := Aside0.mk hy277
 clear hy277
 have H' := Aside0.mk H
 clear H
 go_enter Try.func48, Try.ntmps48
 go_wp2_with (first | ((with_reducible refine gate_dst (N := 12) rfl ?_); refine Kd.R_lit k48 _ 48 ?hg (N := 12) ?hd (xs := ([] : List (S48))) (inner := []) (ok := fun _ => True) (okp := fun _ => True) ?hr ?hp (fun _ hk => hk) trivial (Below.refl _ _) (Nat.le_refl _) (by simp) ?_; (case hd => rfl); (case hg => rfl); (case hr => first | (go_simp; done) | (go_simp; rfl)); (case hp => exact (Reps.none _ _)); intro v278 w4 ho5 hb hg_ hnew_; clear hg_ hnew_; (first | rw [← Ny277.out] at ho5 | (simp only [Int.reduceToNat] at ho5; rw [← Ny277.out] at ho5)); have n0_ := Aside0.mk (Kd.R_lower ho5 (below_size (by repeat (first | (with_reducible first | exact HB.out | apply below_alloc | apply pw_below_drewN | apply below_drew1) | exact HB.out)))); have n1_ := Aside0.mk (below_step (by repeat (first | (with_reducible first | exact HB.out | apply below_alloc | apply pw_below_drewN | apply below_drew1) | exact HB.out)) hb); clear HB; have HO279 := n0_; have HB := n1_; clear n0_ n1_; clear hb ho5))
 repeat (go_quiet (first | ((with_reducible refine gate_dst (N := 12) rfl ?_); refine Kd.R_lit k48 _ 48 ?hg (N := 12) ?hd (xs := ([] : List (S48))) (inner := []) (ok := fun _ => True) (okp := fun _ => True) ?hr ?hp (fun _ hk => hk) trivial (Below.refl _ _) (Nat.le_refl _) (by simp) ?_; (case hd => rfl); (case hg => rfl); (case hr => first | (go_simp; done) | (go_simp; rfl)); (case hp => exact (Reps.none _ _)); intro v278 w4 ho5 hb hg_ hnew_; clear hg_ hnew_; (first | rw [← Ny277.out] at ho5 | (simp only [Int.reduceToNat] at ho5; rw [← Ny277.out] at ho5)); have n0_ := Aside0.mk (Kd.R_lower ho5 (below_size (by repeat (first | (with_reducible first | exact HB.out | apply below_alloc | apply pw_below_drewN | apply below_drew1) | exact HB.out)))); have n1_ := Aside0.mk (below_step (by repeat (first | (with_reducible first | exact HB.out | apply below_alloc | apply pw_below_drewN | apply below_drew1) | exact HB.out)) hb); clear HB; have HO279 := n0_; have HB := n1_; clear n0_ n1_; clear hb ho5)); try go_wp2_with (first | ((with_reducible refine gate_dst (N := 12) rfl ?_); refine Kd.R_lit k48 _ 48 ?hg (N := 12) ?hd (xs := ([] : List (S48))) (inner := []) (ok := fun _ => True) (okp := fun _ => True) ?hr ?hp (fun _ hk => hk) trivial (Below.refl _ _) (Nat.le_refl _) (by simp) ?_; (case hd => rfl); (case hg => rfl); (case hr => first | (go_simp; done) | (go_simp; rfl)); (case hp => exact (Reps.none _ _)); intro v278 w4 ho5 hb hg_ hnew_; clear hg_ hnew_; (first | rw [← Ny277.out] at ho5 | (simp only [Int.reduceToNat] at ho5; rw [← Ny277.out] at ho5)); have n0_ := Aside0.mk (Kd.R_lower ho5 (below_size (by repeat (first | (with_reducible first | exact HB.out | apply below_alloc | apply pw_below_drewN | apply below_drew1) | exact HB.out)))); have n1_ := Aside0.mk (below_step (by repeat (first | (with_reducible first | exact HB.out | apply below_alloc | apply pw_below_drewN | apply below_drew1) | exact HB.out)) hb); clear HB; have HO279 := n0_; have HB := n1_; clear n0_ n1_; clear hb ho5)))
 go_loopg [7, 8, 9] k (fun kq v7 v8 v9 w' => ∃ (x7_1 : List (S48)) (x8_1 : Int) (x9_1 : Int), v8 = .int .i64 x8_1 ∧ v9 = .int .i64 x9_1 ∧ Aside0 (rf_Part.l0 kq l0 a1 a2 x7_1 x8_1 x9_1 = some r) ∧ Aside0 (kq ≤ k) ∧ Aside0 (Kd.R k48 48 w' w.heap.size (fun _ => True) v7 x7_1) ∧ Aside0 (Below w.heap.size w w'))
 case atStart => exact ⟨(y277), (0), (0), (by first | rfl | (simp; done) | (simp [*]; done)), (by first | rfl | (simp; done) | (simp [*]; done)), H', ⟨Nat.le_refl _⟩, ⟨by (with_reducible repeat (first | apply Kd.R_alloc | apply Kd.R_drewN | apply Kd.R_drew)); exact HO279.out⟩, ⟨by repeat (first | (with_reducible first | exact HB.out | apply below_alloc | apply pw_below_drewN | apply below_drew1) | exact HB.out)⟩⟩
 case round =>
  clear H'
  try clear p2
  try clear c4
  obtain ⟨x7_1, x8_1, x9_1, rfl, rfl, HA, HK1, HO_7, HB⟩ := hrel
  cases gk with
  | zero => exact absurd HA.out (by simp [rf_Part.l0])
  | succ k1 =>
   have H := HA.out
   clear HA
   simp only [rf_Part.l0] at H
   by_cases c6 : x9_1 < (l0.length : Int)
   ·rw [if_pos c6] at H
    have c6b0 : decide (x9_1 < (l0.length : Int)) = true := decide_eq_true c6
    clear c6
    by_cases c7 : 0 ≤ x9_1
    ·rw [if_pos c7] at H
     have c7b0 : decide (0 ≤ x9_1) = true := decide_eq_true c7
     clear c7
     by_cases c8 : x8_1 < a1
     ·rw [if_pos c8] at H
      have c8b0 : decide (x8_1 < a1) = true := decide_eq_true c8
      clear c8
      by_cases c9 : (wrap64 (x8_1 + ((rd_T48 l0 x9_1).f1))) > a2
      ·rw [if_pos c9] at H
       have c9b0 : decide (a2 < (wrap64 (x8_1 + ((rd_T48 l0 x9_1).f1)))) = true := decide_eq_true c9
       clear c9
       replace H := Option.bind_eq_some_iff.mp H
       obtain ⟨t282, A100, H⟩ := H
       replace H : (rf_Part.l0 k1 l0 a1 a2 t282 (wrap64 (x8_1 + ((rd_T48 l0 x9_1).f1))) (wrap64 (x9_1 + 1))) = some r := H
       have A10 := Aside0.mk A100
       clear A100
       have H' := Aside0.mk H
       clear H
       have p280 : 0 ≤ (x9_1 : Int) := odt
       have q280 : x9_1 < (l0.length : Int) := odt
       obtain ⟨ad280, e280, hx280_0, hx280_1⟩ := at_T48 HR0.out x9_1 p280 q280
       cases e280
       replace hx280_0 := (HB.out.cell (World.block_lt_of_cell? w _ hx280_0)).trans hx280_0
       replace hx280_1 := (HB.out.cell (World.block_lt_of_cell? w _ hx280_1)).trans hx280_1
       replace p280 := eq_true p280
       replace q280 := eq_true q280
       have p281 : 0 ≤ (x9_1 : Int) := odt
       have q281 : x9_1 < (l0.length : Int) := odt
       obtain ⟨ad281, e281, hx281_0, hx281_1⟩ := at_T48 HR0.out x9_1 p281 q281
       obtain rfl : ad280 = ad281 := (by injection e281)
       replace hx281_0 := (HB.out.cell (World.block_lt_of_cell? w _ hx281_0)).trans hx281_0
       replace hx281_1 := (HB.out.cell (World.block_lt_of_cell? w _ hx281_1)).trans hx281_1
       replace p281 := eq_true p281
       replace q281 := eq_true q281
       obtain ⟨Ao11, co11, eo11⟩ := Kd.R_slice HO_7.out
       subst eo11
       go_wp2_with (first | (go_at_call 47; (with_reducible refine (rf_put.calls (fun k_ => some k_ = (.slice Ao11 x7_1.length co11 : Value).ownBlock) (.slice Ao11 x7_1.length co11) x7_1 ((rd_T48 l0 x9_1).f0) (wrap64 (a2 - a1)) t282 w _ ?side1 ?side2 A10.out).mono ?_); (case side1 => repeat (first | (with_reducible first | exact HB.out | apply below_alloc | apply pw_below_drewN | apply below_drew1) | exact HB.out)); (case side2 => exact Kd.R_tight rfl HO_7.out); rintro e w12 ⟨v283, rfl, ho0, hb, hkp⟩; have n0_ := Aside0.mk (Kd.R_mono (ok' := fun k_ => True) ho0 (fun k_ hk_ => trivial)); have n1_ := Aside0.mk (hb); clear HB; clear HO_7; have HO284 := n0_; have HB := n1_; clear n0_ n1_; (try clear hb); (try clear hkp); (try clear ho0); have p285 : 0 ≤ (x9_1 : Int) := odt; have q285 : x9_1 < (l0.length : Int) := odt; obtain ⟨ad285, e285, hx285_0, hx285_1⟩ := at_T48 HR0.out x9_1 p285 q285; obtain rfl : ad280 = ad285 := (by injection e285); replace hx285_0 := (HB.out.cell (World.block_lt_of_cell? w _ hx285_0)).trans hx285_0; replace hx285_1 := (HB.out.cell (World.block_lt_of_cell? w _ hx285_1)).trans hx285_1; replace p285 := eq_true p285; replace q285 := eq_true q285))
       have hiw := fun z => i64_w z
       repeat (go_quiet (first | (go_at_call 47; (with_reducible refine (rf_put.calls (fun k_ => some k_ = (.slice Ao11 x7_1.length co11 : Value).ownBlock) (.slice Ao11 x7_1.length co11) x7_1 ((rd_T48 l0 x9_1).f0) (wrap64 (a2 - a1)) t282 w _ ?side1 ?side2 A10.out).mono ?_); (case side1 => repeat (first | (with_reducible first | exact HB.out | apply below_alloc | apply pw_below_drewN | apply below_drew1) | exact HB.out)); (case side2 => exact Kd.R_tight rfl HO_7.out); rintro e w12 ⟨v283, rfl, ho0, hb, hkp⟩; have n0_ := Aside0.mk (Kd.R_mono (ok' := fun k_ => True) ho0 (fun k_ hk_ => trivial)); have n1_ := Aside0.mk (hb); clear HB; clear HO_7; have HO284 := n0_; have HB := n1_; clear n0_ n1_; (try clear hb); (try clear hkp); (try clear ho0); have p285 : 0 ≤ (x9_1 : Int) := odt; have q285 : x9_1 < (l0.length : Int) := odt; obtain ⟨ad285, e285, hx285_0, hx285_1⟩ := at_T48 HR0.out x9_1 p285 q285; obtain rfl : ad280 = ad285 := (by injection e285); replace hx285_0 := (HB.out.cell (World.block_lt_of_cell? w _ hx285_0)).trans hx285_0; replace hx285_1 := (HB.out.cell (World.block_lt_of_cell? w _ hx285_1)).trans hx285_1; replace p285 := eq_true p285; replace q285 := eq_true q285)); try go_wp2_with (first | (go_at_call 47; (with_reducible refine (rf_put.calls (fun k_ => some k_ = (.slice Ao11 x7_1.length co11 : Value).ownBlock) (.slice Ao11 x7_1.length co11) x7_1 ((rd_T48 l0 x9_1).f0) (wrap64 (a2 - a1)) t282 w _ ?side1 ?side2 A10.out).mono ?_); (case side1 => repeat (first | (with_reducible first | exact HB.out | apply below_alloc | apply pw_below_drewN | apply below_drew1) | exact HB.out)); (case side2 => exact Kd.R_tight rfl HO_7.out); rintro e w12 ⟨v283, rfl, ho0, hb, hkp⟩; have n0_ := Aside0.mk (Kd.R_mono (ok' := fun k_ => True) ho0 (fun k_ hk_ => trivial)); have n1_ := Aside0.mk (hb); clear HB; clear HO_7; have HO284 := n0_; have HB := n1_; clear n0_ n1_; (try clear hb); (try clear hkp); (try clear ho0); have p285 : 0 ≤ (x9_1 : Int) := odt; have q285 : x9_1 < (l0.length : Int) := odt; obtain ⟨ad285, e285, hx285_0, hx285_1⟩ := at_T48 HR0.out x9_1 p285 q285; obtain rfl : ad280 = ad285 := (by injection e285); replace hx285_0 := (HB.out.cell (World.block_lt_of_cell? w _ hx285_0)).trans hx285_0; replace hx285_1 := (HB.out.cell (World.block_lt_of_cell? w _ hx285_1)).trans hx285_1; replace p285 := eq_true p285; replace q285 := eq_true q285)))
       go_roundg k1
       case measure => have := HK1.out; omega
       case rel => exact ⟨(t282), (wrap64 (x8_1 + ((rd_T48 l0 x9_1).f1))), (wrap64 (x9_1 + 1)), (by first | rfl | (simp; done) | (simp [*]; done)), (by first | rfl | (simp; done) | (simp [*]; done)), H', ⟨by have := HK1.out; omega⟩, ⟨by (with_reducible repeat (first | apply Kd.R_alloc | apply Kd.R_drewN | apply Kd.R_drew)); exact HO284.out⟩, ⟨by repeat (first | (with_reducible first | exact HB.out | apply below_alloc | apply pw_below_drewN | apply below_drew1) | exact HB.out)⟩⟩
      ·rw [if_neg c9] at H
       have c9b0 : decide (a2 < (wrap64 (x8_1 + ((rd_T48 l0 x9_1).f1)))) = false := decide_eq_false c9
       clear c9
       replace H := Option.bind_eq_some_iff.mp H
       obtain ⟨t287, A130, H⟩ := H
       replace H : (rf_Part.l0 k1 l0 a1 a2 t287 (wrap64 (x8_1 + ((rd_T48 l0 x9_1).f1))) (wrap64 (x9_1 + 1))) = some r := H
       have A13 := Aside0.mk A130
       clear A130
       have H' := Aside0.mk H
       clear H
       have p280 : 0 ≤ (x9_1 : Int) := odt
       have q280 : x9_1 < (l0.length : Int) := odt
       obtain ⟨ad280, e280, hx280_0, hx280_1⟩ := at_T48 HR0.out x9_1 p280 q280
       cases e280
       replace hx280_0 := (HB.out.cell (World.block_lt_of_cell? w _ hx280_0)).trans hx280_0
       replace hx280_1 := (HB.out.cell (World.block_lt_of_cell? w _ hx280_1)).trans hx280_1
       replace p280 := eq_true p280
       replace q280 := eq_true q280
       have p286 : 0 ≤ (x9_1 : Int) := odt
       have q286 : x9_1 < (l0.length : Int) := odt
       obtain ⟨ad286, e286, hx286_0, hx286_1⟩ := at_T48 HR0.out x9_1 p286 q286
       obtain rfl : ad280 = ad286 := (by injection e286)
       replace hx286_0 := (HB.out.cell (World.block_lt_of_cell? w _ hx286_0)).trans hx286_0
       replace hx286_1 := (HB.out.cell (World.block_lt_of_cell? w _ hx286_1)).trans hx286_1
       replace p286 := eq_true p286
       replace q286 := eq_true q286
       obtain ⟨Ao14, co14, eo14⟩ := Kd.R_slice HO_7.out
       subst eo14
       go_wp2_with (first | (go_at_call 47; (with_reducible refine (rf_put.calls (fun k_ => some k_ = (.slice Ao14 x7_1.length co14 : Value).ownBlock) (.slice Ao14 x7_1.length co14) x7_1 ((rd_T48 l0 x9_1).f0) (wrap64 ((wrap64 (x8_1 + ((rd_T48 l0 x9_1).f1))) - a1)) t287 w _ ?side1 ?side2 A13.out).mono ?_); (case side1 => repeat (first | (with_reducible first | exact HB.out | apply below_alloc | apply pw_below_drewN | apply below_drew1) | exact HB.out)); (case side2 => exact Kd.R_tight rfl HO_7.out); rintro e w15 ⟨v288, rfl, ho0, hb, hkp⟩; have n0_ := Aside0.mk (Kd.R_mono (ok' := fun k_ => True) ho0 (fun k_ hk_ => trivial)); have n1_ := Aside0.mk (hb); clear HB; clear HO_7; have HO289 := n0_; have HB := n1_; clear n0_ n1_; (try clear hb); (try clear hkp); (try clear ho0); have p290 : 0 ≤ (x9_1 : Int) := odt; have q290 : x9_1 < (l0.length : Int) := odt; obtain ⟨ad290, e290, hx290_0, hx290_1⟩ := at_T48 HR0.out x9_1 p290 q290; obtain rfl : ad280 = ad290 := (by injection e290); replace hx290_0 := (HB.out.cell (World.block_lt_of_cell? w _ hx290_0)).trans hx290_0; replace hx290_1 := (HB.out.cell (World.block_lt_of_cell? w _ hx290_1)).trans hx290_1; replace p290 := eq_true p290; replace q290 := eq_true q290))
       have hiw := fun z => i64_w z
       repeat (go_quiet (first | (go_at_call 47; (with_reducible refine (rf_put.calls (fun k_ => some k_ = (.slice Ao14 x7_1.length co14 : Value).ownBlock) (.slice Ao14 x7_1.length co14) x7_1 ((rd_T48 l0 x9_1).f0) (wrap64 ((wrap64 (x8_1 + ((rd_T48 l0 x9_1).f1))) - a1)) t287 w _ ?side1 ?side2 A13.out).mono ?_); (case side1 => repeat (first | (with_reducible first | exact HB.out | apply below_alloc | apply pw_below_drewN | apply below_drew1) | exact HB.out)); (case side2 => exact Kd.R_tight rfl HO_7.out); rintro e w15 ⟨v288, rfl, ho0, hb, hkp⟩; have n0_ := Aside0.mk (Kd.R_mono (ok' := fun k_ => True) ho0 (fun k_ hk_ => trivial)); have n1_ := Aside0.mk (hb); clear HB; clear HO_7; have HO289 := n0_; have HB := n1_; clear n0_ n1_; (try clear hb); (try clear hkp); (try clear ho0); have p290 : 0 ≤ (x9_1 : Int) := odt; have q290 : x9_1 < (l0.length : Int) := odt; obtain ⟨ad290, e290, hx290_0, hx290_1⟩ := at_T48 HR0.out x9_1 p290 q290; obtain rfl : ad280 = ad290 := (by injection e290); replace hx290_0 := (HB.out.cell (World.block_lt_of_cell? w _ hx290_0)).trans hx290_0; replace hx290_1 := (HB.out.cell (World.block_lt_of_cell? w _ hx290_1)).trans hx290_1; replace p290 := eq_true p290; replace q290 := eq_true q290)); try go_wp2_with (first | (go_at_call 47; (with_reducible refine (rf_put.calls (fun k_ => some k_ = (.slice Ao14 x7_1.length co14 : Value).ownBlock) (.slice Ao14 x7_1.length co14) x7_1 ((rd_T48 l0 x9_1).f0) (wrap64 ((wrap64 (x8_1 + ((rd_T48 l0 x9_1).f1))) - a1)) t287 w _ ?side1 ?side2 A13.out).mono ?_); (case side1 => repeat (first | (with_reducible first | exact HB.out | apply below_alloc | apply pw_below_drewN | apply below_drew1) | exact HB.out)); (case side2 => exact Kd.R_tight rfl HO_7.out); rintro e w15 ⟨v288, rfl, ho0, hb, hkp⟩; have n0_ := Aside0.mk (Kd.R_mono (ok' := fun k_ => True) ho0 (fun k_ hk_ => trivial)); have n1_ := Aside0.mk (hb); clear HB; clear HO_7; have HO289 := n0_; have HB := n1_; clear n0_ n1_; (try clear hb); (try clear hkp); (try clear ho0); have p290 : 0 ≤ (x9_1 : Int) := odt; have q290 : x9_1 < (l0.length : Int) := odt; obtain ⟨ad290, e290, hx290_0, hx290_1⟩ := at_T48 HR0.out x9_1 p290 q290; obtain rfl : ad280 = ad290 := (by injection e290); replace hx290_0 := (HB.out.cell (World.block_lt_of_cell? w _ hx290_0)).trans hx290_0; replace hx290_1 := (HB.out.cell (World.block_lt_of_cell? w _ hx290_1)).trans hx290_1; replace p290 := eq_true p290; replace q290 := eq_true q290)))
       go_roundg k1
       case measure => have := HK1.out; omega
       case rel => exact ⟨(t287), (wrap64 (x8_1 + ((rd_T48 l0 x9_1).f1))), (wrap64 (x9_1 + 1)), (by first | rfl | (simp; done) | (simp [*]; done)), (by first | rfl | (simp; done) | (simp [*]; done)), H', ⟨by have := HK1.out; omega⟩, ⟨by (with_reducible repeat (first | apply Kd.R_alloc | apply Kd.R_drewN | apply Kd.R_drew)); exact HO289.out⟩, ⟨by repeat (first | (with_reducible first | exact HB.out | apply below_alloc | apply pw_below_drewN | apply below_drew1) | exact HB.out)⟩⟩
     ·rw [if_neg c8] at H
      have c8b0 : decide (x8_1 < a1) = false := decide_eq_false c8
      clear c8
      by_cases c16 : (wrap64 (x8_1 + ((rd_T48 l0 x9_1).f1))) > a2
      ·rw [if_pos c16] at H
       have c16b0 : decide (a2 < (wrap64 (x8_1 + ((rd_T48 l0 x9_1).f1)))) = true := decide_eq_true c16
       clear c16
       replace H := Option.bind_eq_some_iff.mp H
       obtain ⟨t292, A170, H⟩ := H
       replace H : (rf_Part.l0 k1 l0 a1 a2 t292 (wrap64 (x8_1 + ((rd_T48 l0 x9_1).f1))) (wrap64 (x9_1 + 1))) = some r := H
       have A17 := Aside0.mk A170
       clear A170
       have H' := Aside0.mk H
       clear H
       have p280 : 0 ≤ (x9_1 : Int) := odt
       have q280 : x9_1 < (l0.length : Int) := odt
       obtain ⟨ad280, e280, hx280_0, hx280_1⟩ := at_T48 HR0.out x9_1 p280 q280
       cases e280
       replace hx280_0 := (HB.out.cell (World.block_lt_of_cell? w _ hx280_0)).trans hx280_0
       replace hx280_1 := (HB.out.cell (World.block_lt_of_cell? w _ hx280_1)).trans hx280_1
       replace p280 := eq_true p280
       replace q280 := eq_true q280
       have p291 : 0 ≤ (x9_1 : Int) := odt
       have q291 : x9_1 < (l0.length : Int) := odt
       obtain ⟨ad291, e291, hx291_0, hx291_1⟩ := at_T48 HR0.out x9_1 p291 q291
       obtain rfl : ad280 = ad291 := (by injection e291)
       replace hx291_0 := (HB.out.cell (World.block_lt_of_cell? w _ hx291_0)).trans hx291_0
       replace hx291_1 := (HB.out.cell (World.block_lt_of_cell? w _ hx291_1)).trans hx291_1
       replace p291 := eq_true p291
       replace q291 := eq_true q291
       obtain ⟨Ao18, co18, eo18⟩ := Kd.R_slice HO_7.out
       subst eo18
       go_wp2_with (first | (go_at_call 47; (with_reducible refine (rf_put.calls (fun k_ => some k_ = (.slice Ao18 x7_1.length co18 : Value).ownBlock) (.slice Ao18 x7_1.length co18) x7_1 ((rd_T48 l0 x9_1).f0) (wrap64 (a2 - x8_1)) t292 w _ ?side1 ?side2 A17.out).mono ?_); (case side1 => repeat (first | (with_reducible first | exact HB.out | apply below_alloc | apply pw_below_drewN | apply below_drew1) | exact HB.out)); (case side2 => exact Kd.R_tight rfl HO_7.out); rintro e w19 ⟨v293, rfl, ho0, hb, hkp⟩; have n0_ := Aside0.mk (Kd.R_mono (ok' := fun k_ => True) ho0 (fun k_ hk_ => trivial)); have n1_ := Aside0.mk (hb); clear HB; clear HO_7; have HO294 := n0_; have HB := n1_; clear n0_ n1_; (try clear hb); (try clear hkp); (try clear ho0); have p295 : 0 ≤ (x9_1 : Int) := odt; have q295 : x9_1 < (l0.length : Int) := odt; obtain ⟨ad295, e295, hx295_0, hx295_1⟩ := at_T48 HR0.out x9_1 p295 q295; obtain rfl : ad280 = ad295 := (by injection e295); replace hx295_0 := (HB.out.cell (World.block_lt_of_cell? w _ hx295_0)).trans hx295_0; replace hx295_1 := (HB.out.cell (World.block_lt_of_cell? w _ hx295_1)).trans hx295_1; replace p295 := eq_true p295; replace q295 := eq_true q295))
       have hiw := fun z => i64_w z
       repeat (go_quiet (first | (go_at_call 47; (with_reducible refine (rf_put.calls (fun k_ => some k_ = (.slice Ao18 x7_1.length co18 : Value).ownBlock) (.slice Ao18 x7_1.length co18) x7_1 ((rd_T48 l0 x9_1).f0) (wrap64 (a2 - x8_1)) t292 w _ ?side1 ?side2 A17.out).mono ?_); (case side1 => repeat (first | (with_reducible first | exact HB.out | apply below_alloc | apply pw_below_drewN | apply below_drew1) | exact HB.out)); (case side2 => exact Kd.R_tight rfl HO_7.out); rintro e w19 ⟨v293, rfl, ho0, hb, hkp⟩; have n0_ := Aside0.mk (Kd.R_mono (ok' := fun k_ => True) ho0 (fun k_ hk_ => trivial)); have n1_ := Aside0.mk (hb); clear HB; clear HO_7; have HO294 := n0_; have HB := n1_; clear n0_ n1_; (try clear hb); (try clear hkp); (try clear ho0); have p295 : 0 ≤ (x9_1 : Int) := odt; have q295 : x9_1 < (l0.length : Int) := odt; obtain ⟨ad295, e295, hx295_0, hx295_1⟩ := at_T48 HR0.out x9_1 p295 q295; obtain rfl : ad280 = ad295 := (by injection e295); replace hx295_0 := (HB.out.cell (World.block_lt_of_cell? w _ hx295_0)).trans hx295_0; replace hx295_1 := (HB.out.cell (World.block_lt_of_cell? w _ hx295_1)).trans hx295_1; replace p295 := eq_true p295; replace q295 := eq_true q295)); try go_wp2_with (first | (go_at_call 47; (with_reducible refine (rf_put.calls (fun k_ => some k_ = (.slice Ao18 x7_1.length co18 : Value).ownBlock) (.slice Ao18 x7_1.length co18) x7_1 ((rd_T48 l0 x9_1).f0) (wrap64 (a2 - x8_1)) t292 w _ ?side1 ?side2 A17.out).mono ?_); (case side1 => repeat (first | (with_reducible first | exact HB.out | apply below_alloc | apply pw_below_drewN | apply below_drew1) | exact HB.out)); (case side2 => exact Kd.R_tight rfl HO_7.out); rintro e w19 ⟨v293, rfl, ho0, hb, hkp⟩; have n0_ := Aside0.mk (Kd.R_mono (ok' := fun k_ => True) ho0 (fun k_ hk_ => trivial)); have n1_ := Aside0.mk (hb); clear HB; clear HO_7; have HO294 := n0_; have HB := n1_; clear n0_ n1_; (try clear hb); (try clear hkp); (try clear ho0); have p295 : 0 ≤ (x9_1 : Int) := odt; have q295 : x9_1 < (l0.length : Int) := odt; obtain ⟨ad295, e295, hx295_0, hx295_1⟩ := at_T48 HR0.out x9_1 p295 q295; obtain rfl : ad280 = ad295 := (by injection e295); replace hx295_0 := (HB.out.cell (World.block_lt_of_cell? w _ hx295_0)).trans hx295_0; replace hx295_1 := (HB.out.cell (World.block_lt_of_cell? w _ hx295_1)).trans hx295_1; replace p295 := eq_true p295; replace q295 := eq_true q295)))
       go_roundg k1
       case measure => have := HK1.out; omega
       case rel => exact ⟨(t292), (wrap64 (x8_1 + ((rd_T48 l0 x9_1).f1))), (wrap64 (x9_1 + 1)), (by first | rfl | (simp; done) | (simp [*]; done)), (by first | rfl | (simp; done) | (simp [*]; done)), H', ⟨by have := HK1.out; omega⟩, ⟨by (with_reducible repeat (first | apply Kd.R_alloc | apply Kd.R_drewN | apply Kd.R_drew)); exact HO294.out⟩, ⟨by repeat (first | (with_reducible first | exact HB.out | apply below_alloc | apply pw_below_drewN | apply below_drew1) | exact HB.out)⟩⟩
      ·rw [if_neg c16] at H
       have c16b0 : decide (a2 < (wrap64 (x8_1 + ((rd_T48 l0 x9_1).f1)))) = false := decide_eq_false c16
       clear c16
       replace H := Option.bind_eq_some_iff.mp H
       obtain ⟨t297, A200, H⟩ := H
       replace H : (rf_Part.l0 k1 l0 a1 a2 t297 (wrap64 (x8_1 + ((rd_T48 l0 x9_1).f1))) (wrap64 (x9_1 + 1))) = some r := H
       have A20 := Aside0.mk A200
       clear A200
       have H' := Aside0.mk H
       clear H
       have p280 : 0 ≤ (x9_1 : Int) := odt
       have q280 : x9_1 < (l0.length : Int) := odt
       obtain ⟨ad280, e280, hx280_0, hx280_1⟩ := at_T48 HR0.out x9_1 p280 q280
       cases e280
       replace hx280_0 := (HB.out.cell (World.block_lt_of_cell? w _ hx280_0)).trans hx280_0
       replace hx280_1 := (HB.out.cell (World.block_lt_of_cell? w _ hx280_1)).trans hx280_1
       replace p280 := eq_true p280
       replace q280 := eq_true q280
       have p296 : 0 ≤ (x9_1 : Int) := odt
       have q296 : x9_1 < (l0.length : Int) := odt
       obtain ⟨ad296, e296, hx296_0, hx296_1⟩ := at_T48 HR0.out x9_1 p296 q296
       obtain rfl : ad280 = ad296 := (by injection e296)
       replace hx296_0 := (HB.out.cell (World.block_lt_of_cell? w _ hx296_0)).trans hx296_0
       replace hx296_1 := (HB.out.cell (World.block_lt_of_cell? w _ hx296_1)).trans hx296_1
       replace p296 := eq_true p296
       replace q296 := eq_true q296
       obtain ⟨Ao21, co21, eo21⟩ := Kd.R_slice HO_7.out
       subst eo21
       go_wp2_with (first | (go_at_call 47; (with_reducible refine (rf_put.calls (fun k_ => some k_ = (.slice Ao21 x7_1.length co21 : Value).ownBlock) (.slice Ao21 x7_1.length co21) x7_1 ((rd_T48 l0 x9_1).f0) (wrap64 ((wrap64 (x8_1 + ((rd_T48 l0 x9_1).f1))) - x8_1)) t297 w _ ?side1 ?side2 A20.out).mono ?_); (case side1 => repeat (first | (with_reducible first | exact HB.out | apply below_alloc | apply pw_below_drewN | apply below_drew1) | exact HB.out)); (case side2 => exact Kd.R_tight rfl HO_7.out); rintro e w22 ⟨v298, rfl, ho0, hb, hkp⟩; have n0_ := Aside0.mk (Kd.R_mono (ok' := fun k_ => True) ho0 (fun k_ hk_ => trivial)); have n1_ := Aside0.mk (hb); clear HB; clear HO_7; have HO299 := n0_; have HB := n1_; clear n0_ n1_; (try clear hb); (try clear hkp); (try clear ho0); have p300 : 0 ≤ (x9_1 : Int) := odt; have q300 : x9_1 < (l0.length : Int) := odt; obtain ⟨ad300, e300, hx300_0, hx300_1⟩ := at_T48 HR0.out x9_1 p300 q300; obtain rfl : ad280 = ad300 := (by injection e300); replace hx300_0 := (HB.out.cell (World.block_lt_of_cell? w _ hx300_0)).trans hx300_0; replace hx300_1 := (HB.out.cell (World.block_lt_of_cell? w _ hx300_1)).trans hx300_1; replace p300 := eq_true p300; replace q300 := eq_true q300))
       have hiw := fun z => i64_w z
       repeat (go_quiet (first | (go_at_call 47; (with_reducible refine (rf_put.calls (fun k_ => some k_ = (.slice Ao21 x7_1.length co21 : Value).ownBlock) (.slice Ao21 x7_1.length co21) x7_1 ((rd_T48 l0 x9_1).f0) (wrap64 ((wrap64 (x8_1 + ((rd_T48 l0 x9_1).f1))) - x8_1)) t297 w _ ?side1 ?side2 A20.out).mono ?_); (case side1 => repeat (first | (with_reducible first | exact HB.out | apply below_alloc | apply pw_below_drewN | apply below_drew1) | exact HB.out)); (case side2 => exact Kd.R_tight rfl HO_7.out); rintro e w22 ⟨v298, rfl, ho0, hb, hkp⟩; have n0_ := Aside0.mk (Kd.R_mono (ok' := fun k_ => True) ho0 (fun k_ hk_ => trivial)); have n1_ := Aside0.mk (hb); clear HB; clear HO_7; have HO299 := n0_; have HB := n1_; clear n0_ n1_; (try clear hb); (try clear hkp); (try clear ho0); have p300 : 0 ≤ (x9_1 : Int) := odt; have q300 : x9_1 < (l0.length : Int) := odt; obtain ⟨ad300, e300, hx300_0, hx300_1⟩ := at_T48 HR0.out x9_1 p300 q300; obtain rfl : ad280 = ad300 := (by injection e300); replace hx300_0 := (HB.out.cell (World.block_lt_of_cell? w _ hx300_0)).trans hx300_0; replace hx300_1 := (HB.out.cell (World.block_lt_of_cell? w _ hx300_1)).trans hx300_1; replace p300 := eq_true p300; replace q300 := eq_true q300)); try go_wp2_with (first | (go_at_call 47; (with_reducible refine (rf_put.calls (fun k_ => some k_ = (.slice Ao21 x7_1.length co21 : Value).ownBlock) (.slice Ao21 x7_1.length co21) x7_1 ((rd_T48 l0 x9_1).f0) (wrap64 ((wrap64 (x8_1 + ((rd_T48 l0 x9_1).f1))) - x8_1)) t297 w _ ?side1 ?side2 A20.out).mono ?_); (case side1 => repeat (first | (with_reducible first | exact HB.out | apply below_alloc | apply pw_below_drewN | apply below_drew1) | exact HB.out)); (case side2 => exact Kd.R_tight rfl HO_7.out); rintro e w22 ⟨v298, rfl, ho0, hb, hkp⟩; have n0_ := Aside0.mk (Kd.R_mono (ok' := fun k_ => True) ho0 (fun k_ hk_ => trivial)); have n1_ := Aside0.mk (hb); clear HB; clear HO_7; have HO299 := n0_; have HB := n1_; clear n0_ n1_; (try clear hb); (try clear hkp); (try clear ho0); have p300 : 0 ≤ (x9_1 : Int) := odt; have q300 : x9_1 < (l0.length : Int) := odt; obtain ⟨ad300, e300, hx300_0, hx300_1⟩ := at_T48 HR0.out x9_1 p300 q300; obtain rfl : ad280 = ad300 := (by injection e300); replace hx300_0 := (HB.out.cell (World.block_lt_of_cell? w _ hx300_0)).trans hx300_0; replace hx300_1 := (HB.out.cell (World.block_lt_of_cell? w _ hx300_1)).trans hx300_1; replace p300 := eq_true p300; replace q300 := eq_true q300)))
       go_roundg k1
       case measure => have := HK1.out; omega
       case rel => exact ⟨(t297), (wrap64 (x8_1 + ((rd_T48 l0 x9_1).f1))), (wrap64 (x9_1 + 1)), (by first | rfl | (simp; done) | (simp [*]; done)), (by first | rfl | (simp; done) | (simp [*]; done)), H', ⟨by have := HK1.out; omega⟩, ⟨by (with_reducible repeat (first | apply Kd.R_alloc | apply Kd.R_drewN | apply Kd.R_drew)); exact HO299.out⟩, ⟨by repeat (first | (with_reducible first | exact HB.out | apply below_alloc | apply pw_below_drewN | apply below_drew1) | exact HB.out)⟩⟩
    ·rw [if_neg c7] at H
     exact absurd H (by simp)
   ·rw [if_neg c6] at H
    have c6b0 : decide (x9_1 < (l0.length : Int)) = false := decide_eq_false c6
    clear c6
    obtain rfl := Option.some.inj H
    go_wp2
    have hiw := fun z => i64_w z
    repeat (go_quiet (fail); try go_wp2)
    go_ret
    exact ⟨_, by first | rfl | (simp [errW_none, errW_some] <;> rfl) | (simp [*, errW_none, errW_some] <;> rfl), by (with_reducible repeat (first | apply Kd.R_alloc | apply Kd.R_drewN | apply Kd.R_drew)); exact HO_7.out, by repeat (first | (with_reducible first | exact HB.out | apply below_alloc | apply pw_below_drewN | apply below_drew1) | exact HB.out)⟩

end Go.Proofs.Yteafkdadpdofjaa.Q
