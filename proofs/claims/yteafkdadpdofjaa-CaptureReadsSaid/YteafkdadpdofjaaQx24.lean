/- Go functions of the seat, each with a Lean function of the same answers; no condition beside those that each theorem bears. -/
import Derived.Test.YteafkdadpdofjaaQx0
import Derived.Test.YteafkdadpdofjaaQx1
import Derived.Test.YteafkdadpdofjaaQx3
import Derived.Test.YteafkdadpdofjaaQx5
import Derived.Test.YteafkdadpdofjaaQx8
import Derived.Test.YteafkdadpdofjaaQx11
import Derived.Test.YteafkdadpdofjaaQx12
import Derived.Test.YteafkdadpdofjaaQx13
import Derived.Test.YteafkdadpdofjaaQx16
import Derived.Test.YteafkdadpdofjaaQx21
import Derived.Test.YteafkdadpdofjaaQx22
import Derived.Test.YteafkdadpdofjaaQx23
namespace Go.Proofs.Yteafkdadpdofjaa.Q
open Go.RowKit Go.Proofs.YteafkdadpdofjaaW.PrintWords Go.Proofs.YteafkdadpdofjaaW.PrintLast Go.Proofs.YteafkdadpdofjaaW.PrintMore
attribute [local go_sem] max2_int min2_int max_two min_two max_three min_three max_four min_four
set_option linter.unusedVariables false
set_option linter.unusedSimpArgs false

attribute [local go_sem high] eqA42
/-! ### lw_CaptureReads: function 9 -/
mutual
def lw_CaptureReads.j0 : Nat → Bool → List ByteArray → List (S48) → Option (Bool)
 | 0, _, _, _ => none
 | k + 1, x70, x328000, x328001 => if x70 = true then (some false) else ((capture_Edges.f k x328000 x328001).bind fun t356 => ((rf_Edges.f k x328000 x328001).bind fun t359 => (if (t356.length : Int) = (t359.length : Int) then (lw_CaptureReads.l0 k t356 t359 0) else (some false))))
def lw_CaptureReads.l0 : Nat → List (S42) → List (S42) → Int → Option (Bool)
 | 0, _, _, _ => none
 | k + 1, x17, x18, x19 => if x19 < (x17.length : Int) then (if 0 ≤ x19 then (if x19 < (x18.length : Int) then (if (!(((rd_T42 x17 x19).f0) == ((rd_T42 x18 x19).f0)) || (!(((rd_T42 x17 x19).f1) == ((rd_T42 x18 x19).f1)) || (!(((rd_T42 x17 x19).f2) == ((rd_T42 x18 x19).f2))))) = true then (some false) else (lw_CaptureReads.l0 k x17 x18 (wrap64 (x19 + 1)))) else (none)) else (none)) else (some true)
end
def lw_CaptureReads.f (k : Nat) (l0_0 : List ByteArray) (l0_1 : List (S48)) (a1 : ByteArray) (a2 : Int) (a3 : Int) : Option (Bool) := (lw_lives.f k).bind fun t328 => (if t328 = true then ((lw_few.f l0_0 l0_1).bind fun t329 => (if t329 = true then ((capture_Channel.f k l0_0 l0_1 a1).bind fun bt330 => ((rf_Channel.f k l0_0 l0_1 a1).bind fun bt334 => ((capture_Slice.f k l0_0 l0_1 a2 a3).bind fun bt338 => ((rf_Slice.f k l0_0 l0_1 a2 a3).bind fun bt346 => ((lw_sameRuns.f k bt330.1 bt334.1).bind fun t354 => (if t354 = true then (if bt330.2 = bt334.2 then ((lw_equal.f k bt338.1 bt338.2.1 bt346.1 bt346.2.1).bind fun t355 => (if t355 = true then (lw_CaptureReads.j0 k (bt338.2.2 != bt346.2.2) l0_0 l0_1) else (lw_CaptureReads.j0 k true l0_0 l0_1))) else (lw_CaptureReads.j0 k true l0_0 l0_1)) else (lw_CaptureReads.j0 k true l0_0 l0_1))))))) else (some true))) else (some false))
theorem lw_CaptureReads.mono_l : ∀ k, (∀ y0 y1 y2, LeO (lw_CaptureReads.j0 k y0 y1 y2) (lw_CaptureReads.j0 (k + 1) y0 y1 y2)) ∧ (∀ y0 y1 y2, LeO (lw_CaptureReads.l0 k y0 y1 y2) (lw_CaptureReads.l0 (k + 1) y0 y1 y2))
 | 0 => ⟨fun _ _ _ r h => by simp [lw_CaptureReads.j0] at h, fun _ _ _ r h => by simp [lw_CaptureReads.l0] at h⟩
 | k + 1 => by
  obtain ⟨ih0, ih1⟩ := lw_CaptureReads.mono_l k
  refine ⟨?_, ?_⟩
  ·intro y0 y1 y2
   unfold lw_CaptureReads.j0
   repeat' first
   | (with_reducible exact ih0 _ _ _)
   | (with_reducible exact ih1 _ _ _)
   | (with_reducible exact capture_Channel.mono _ _ _ _)
   | (with_reducible exact capture_Edges.mono _ _ _)
   | (with_reducible exact capture_Slice.mono _ _ _ _ _)
   | (with_reducible exact lw_equal.mono _ _ _ _ _)
   | (with_reducible exact lw_lives.mono _)
   | (with_reducible exact lw_sameRuns.mono _ _ _)
   | (with_reducible exact rf_Channel.mono _ _ _ _)
   | (with_reducible exact rf_Edges.mono _ _ _)
   | (with_reducible exact rf_Slice.mono _ _ _ _ _)
   | (with_reducible exact LeO.refl _)
   | (with_reducible exact LeO.none _)
   | (with_reducible refine LeO.ite ?_ ?_)
   | (with_reducible refine LeO.bind ?_ (fun _ => ?_))
   | exact ih0 _ _ _
   | exact ih1 _ _ _
   | exact capture_Channel.mono _ _ _ _
   | exact capture_Edges.mono _ _ _
   | exact capture_Slice.mono _ _ _ _ _
   | exact lw_equal.mono _ _ _ _ _
   | exact lw_lives.mono _
   | exact lw_sameRuns.mono _ _ _
   | exact rf_Channel.mono _ _ _ _
   | exact rf_Edges.mono _ _ _
   | exact rf_Slice.mono _ _ _ _ _
   | exact LeO.none _
   | refine LeO.ite ?_ ?_
   | refine LeO.bind ?_ (fun _ => ?_)
  ·intro y0 y1 y2
   unfold lw_CaptureReads.l0
   repeat' first
   | (with_reducible exact ih0 _ _ _)
   | (with_reducible exact ih1 _ _ _)
   | (with_reducible exact capture_Channel.mono _ _ _ _)
   | (with_reducible exact capture_Edges.mono _ _ _)
   | (with_reducible exact capture_Slice.mono _ _ _ _ _)
   | (with_reducible exact lw_equal.mono _ _ _ _ _)
   | (with_reducible exact lw_lives.mono _)
   | (with_reducible exact lw_sameRuns.mono _ _ _)
   | (with_reducible exact rf_Channel.mono _ _ _ _)
   | (with_reducible exact rf_Edges.mono _ _ _)
   | (with_reducible exact rf_Slice.mono _ _ _ _ _)
   | (with_reducible exact LeO.refl _)
   | (with_reducible exact LeO.none _)
   | (with_reducible refine LeO.ite ?_ ?_)
   | (with_reducible refine LeO.bind ?_ (fun _ => ?_))
   | exact ih0 _ _ _
   | exact ih1 _ _ _
   | exact capture_Channel.mono _ _ _ _
   | exact capture_Edges.mono _ _ _
   | exact capture_Slice.mono _ _ _ _ _
   | exact lw_equal.mono _ _ _ _ _
   | exact lw_lives.mono _
   | exact lw_sameRuns.mono _ _ _
   | exact rf_Channel.mono _ _ _ _
   | exact rf_Edges.mono _ _ _
   | exact rf_Slice.mono _ _ _ _ _
   | exact LeO.none _
   | refine LeO.ite ?_ ?_
   | refine LeO.bind ?_ (fun _ => ?_)
theorem lw_CaptureReads.mono : ∀ a0 a1 a2 a3 a4 k, LeO (lw_CaptureReads.f k a0 a1 a2 a3 a4) (lw_CaptureReads.f (k + 1) a0 a1 a2 a3 a4) := by
 intro a0 a1 a2 a3 a4 k
 obtain ⟨ih0, ih1⟩ := lw_CaptureReads.mono_l k
 unfold lw_CaptureReads.f
 repeat' first
   | (with_reducible exact ih0 _ _ _)
   | (with_reducible exact ih1 _ _ _)
   | (with_reducible exact capture_Channel.mono _ _ _ _)
   | (with_reducible exact capture_Edges.mono _ _ _)
   | (with_reducible exact capture_Slice.mono _ _ _ _ _)
   | (with_reducible exact lw_equal.mono _ _ _ _ _)
   | (with_reducible exact lw_lives.mono _)
   | (with_reducible exact lw_sameRuns.mono _ _ _)
   | (with_reducible exact rf_Channel.mono _ _ _ _)
   | (with_reducible exact rf_Edges.mono _ _ _)
   | (with_reducible exact rf_Slice.mono _ _ _ _ _)
   | (with_reducible exact LeO.refl _)
   | (with_reducible exact LeO.none _)
   | (with_reducible refine LeO.ite ?_ ?_)
   | (with_reducible refine LeO.bind ?_ (fun _ => ?_))
   | exact ih0 _ _ _
   | exact ih1 _ _ _
   | exact capture_Channel.mono _ _ _ _
   | exact capture_Edges.mono _ _ _
   | exact capture_Slice.mono _ _ _ _ _
   | exact lw_equal.mono _ _ _ _ _
   | exact lw_lives.mono _
   | exact lw_sameRuns.mono _ _ _
   | exact rf_Channel.mono _ _ _ _
   | exact rf_Edges.mono _ _ _
   | exact rf_Slice.mono _ _ _ _ _
   | exact LeO.none _
   | refine LeO.ite ?_ ?_
   | refine LeO.bind ?_ (fun _ => ?_)
def lw_CaptureReads.T17 : Bool × List (List Nat × List Nat) := (true, [([], []), ([], []), ([0, 1], [0, 1]), ([2], [2]), ([], []), ([], []), ([4, 5], [4, 5]), ([6], [6]), ([3, 7], [3, 7])])
def lw_CaptureReads.B17 : List Nat := [0, 0, 3, 7, 0, 0, 48, 112, 255]
theorem lw_CaptureReads.tab17 : rtab .any (opsOf Try.f9 17) = lw_CaptureReads.T17 := by kernel_rfl
theorem lw_CaptureReads.bits17 : waitsOk lw_CaptureReads.T17.2 lw_CaptureReads.B17 = true := by kernel_rfl
set_option maxHeartbeats 8000000 in
set_option maxRecDepth 100000 in
theorem lw_CaptureReads.calls (k : Nat) (A0_0 : Option Addr) (c0_0 : Nat) (l0_0 : List ByteArray) (A0_1 : Option Addr) (c0_1 : Nat) (l0_1 : List (S48)) (a1 : ByteArray) (a2 : Int) (a3 : Int) (r : Bool) (w : World) (hr0_0 : Kd.C Kd.string w A0_0 l0_0.length l0_0) (hc0_0 : l0_0.length ≤ c0_0) (hr0_1 : Kd.C k48 w A0_1 l0_1.length l0_1) (hc0_1 : l0_1.length ≤ c0_1) (h : lw_CaptureReads.f k l0_0 l0_1 a1 a2 a3 = some r) :
  Calls Try.prog 9 #[.agg #[.slice A0_0 l0_0.length c0_0, .slice A0_1 l0_1.length c0_1], .string a1, .int .i64 a2, .int .i64 a3] w fun e w' => e = .returned (.bool r) ∧ Below w.heap.size w w' := by
 have hu25 := Try.underlying25
 have hu42 := Try.underlying42
 have HR0_0 := Aside0.mk hr0_0
 have HC0_0 := Aside0.mk hc0_0
 clear hr0_0 hc0_0
 have HR0_1 := Aside0.mk hr0_1
 have HC0_1 := Aside0.mk hc0_1
 clear hr0_1 hc0_1
 have HB := Aside0.mk (Below.refl w.heap.size w)
 have H : ((lw_lives.f k).bind fun t328 => (if t328 = true then ((lw_few.f l0_0 l0_1).bind fun t329 => (if t329 = true then ((capture_Channel.f k l0_0 l0_1 a1).bind fun bt330 => ((rf_Channel.f k l0_0 l0_1 a1).bind fun bt334 => ((capture_Slice.f k l0_0 l0_1 a2 a3).bind fun bt338 => ((rf_Slice.f k l0_0 l0_1 a2 a3).bind fun bt346 => ((lw_sameRuns.f k bt330.1 bt334.1).bind fun t354 => (if t354 = true then (if bt330.2 = bt334.2 then ((lw_equal.f k bt338.1 bt338.2.1 bt346.1 bt346.2.1).bind fun t355 => (if t355 = true then (lw_CaptureReads.j0 k (bt338.2.2 != bt346.2.2) l0_0 l0_1) else (lw_CaptureReads.j0 k true l0_0 l0_1))) else (lw_CaptureReads.j0 k true l0_0 l0_1)) else (lw_CaptureReads.j0 k true l0_0 l0_1))))))) else (some true))) else (some false))) = some r := h
 clear h
 replace H := Option.bind_eq_some_iff.mp H
 obtain ⟨t328, A50, H⟩ := H
 replace H : (if t328 = true then ((lw_few.f l0_0 l0_1).bind fun t329 => (if t329 = true then ((capture_Channel.f k l0_0 l0_1 a1).bind fun bt330 => ((rf_Channel.f k l0_0 l0_1 a1).bind fun bt334 => ((capture_Slice.f k l0_0 l0_1 a2 a3).bind fun bt338 => ((rf_Slice.f k l0_0 l0_1 a2 a3).bind fun bt346 => ((lw_sameRuns.f k bt330.1 bt334.1).bind fun t354 => (if t354 = true then (if bt330.2 = bt334.2 then ((lw_equal.f k bt338.1 bt338.2.1 bt346.1 bt346.2.1).bind fun t355 => (if t355 = true then (lw_CaptureReads.j0 k (bt338.2.2 != bt346.2.2) l0_0 l0_1) else (lw_CaptureReads.j0 k true l0_0 l0_1))) else (lw_CaptureReads.j0 k true l0_0 l0_1)) else (lw_CaptureReads.j0 k true l0_0 l0_1))))))) else (some true))) else (some false)) = some r := H
 have A5 := Aside0.mk A50
 clear A50
 by_cases c6 : t328 = true
 ·subst c6
  have H1 : ((lw_few.f l0_0 l0_1).bind fun t329 => (if t329 = true then ((capture_Channel.f k l0_0 l0_1 a1).bind fun bt330 => ((rf_Channel.f k l0_0 l0_1 a1).bind fun bt334 => ((capture_Slice.f k l0_0 l0_1 a2 a3).bind fun bt338 => ((rf_Slice.f k l0_0 l0_1 a2 a3).bind fun bt346 => ((lw_sameRuns.f k bt330.1 bt334.1).bind fun t354 => (if t354 = true then (if bt330.2 = bt334.2 then ((lw_equal.f k bt338.1 bt338.2.1 bt346.1 bt346.2.1).bind fun t355 => (if t355 = true then (lw_CaptureReads.j0 k (bt338.2.2 != bt346.2.2) l0_0 l0_1) else (lw_CaptureReads.j0 k true l0_0 l0_1))) else (lw_CaptureReads.j0 k true l0_0 l0_1)) else (lw_CaptureReads.j0 k true l0_0 l0_1))))))) else (some true))) = some r := by rw [if_pos rfl] at H; exact H
  clear H
  have H := H1
  clear H1
  replace H := Option.bind_eq_some_iff.mp H
  obtain ⟨t329, A70, H⟩ := H
  replace H : (if t329 = true then ((capture_Channel.f k l0_0 l0_1 a1).bind fun bt330 => ((rf_Channel.f k l0_0 l0_1 a1).bind fun bt334 => ((capture_Slice.f k l0_0 l0_1 a2 a3).bind fun bt338 => ((rf_Slice.f k l0_0 l0_1 a2 a3).bind fun bt346 => ((lw_sameRuns.f k bt330.1 bt334.1).bind fun t354 => (if t354 = true then (if bt330.2 = bt334.2 then ((lw_equal.f k bt338.1 bt338.2.1 bt346.1 bt346.2.1).bind fun t355 => (if t355 = true then (lw_CaptureReads.j0 k (bt338.2.2 != bt346.2.2) l0_0 l0_1) else (lw_CaptureReads.j0 k true l0_0 l0_1))) else (lw_CaptureReads.j0 k true l0_0 l0_1)) else (lw_CaptureReads.j0 k true l0_0 l0_1))))))) else (some true)) = some r := H
  have A7 := Aside0.mk A70
  clear A70
  by_cases c8 : t329 = true
  ·subst c8
   have H1 : ((capture_Channel.f k l0_0 l0_1 a1).bind fun bt330 => ((rf_Channel.f k l0_0 l0_1 a1).bind fun bt334 => ((capture_Slice.f k l0_0 l0_1 a2 a3).bind fun bt338 => ((rf_Slice.f k l0_0 l0_1 a2 a3).bind fun bt346 => ((lw_sameRuns.f k bt330.1 bt334.1).bind fun t354 => (if t354 = true then (if bt330.2 = bt334.2 then ((lw_equal.f k bt338.1 bt338.2.1 bt346.1 bt346.2.1).bind fun t355 => (if t355 = true then (lw_CaptureReads.j0 k (bt338.2.2 != bt346.2.2) l0_0 l0_1) else (lw_CaptureReads.j0 k true l0_0 l0_1))) else (lw_CaptureReads.j0 k true l0_0 l0_1)) else (lw_CaptureReads.j0 k true l0_0 l0_1))))))) = some r := by rw [if_pos rfl] at H; exact H
   clear H
   have H := H1
   clear H1
   replace H := Option.bind_eq_some_iff.mp H
   obtain ⟨⟨t330, t333⟩, A90, H⟩ := H
   replace H : ((rf_Channel.f k l0_0 l0_1 a1).bind fun bt334 => ((capture_Slice.f k l0_0 l0_1 a2 a3).bind fun bt338 => ((rf_Slice.f k l0_0 l0_1 a2 a3).bind fun bt346 => ((lw_sameRuns.f k t330 bt334.1).bind fun t354 => (if t354 = true then (if t333 = bt334.2 then ((lw_equal.f k bt338.1 bt338.2.1 bt346.1 bt346.2.1).bind fun t355 => (if t355 = true then (lw_CaptureReads.j0 k (bt338.2.2 != bt346.2.2) l0_0 l0_1) else (lw_CaptureReads.j0 k true l0_0 l0_1))) else (lw_CaptureReads.j0 k true l0_0 l0_1)) else (lw_CaptureReads.j0 k true l0_0 l0_1)))))) = some r := H
   have A9 := Aside0.mk A90
   clear A90
   replace H := Option.bind_eq_some_iff.mp H
   obtain ⟨⟨t334, t337⟩, A100, H⟩ := H
   replace H : ((capture_Slice.f k l0_0 l0_1 a2 a3).bind fun bt338 => ((rf_Slice.f k l0_0 l0_1 a2 a3).bind fun bt346 => ((lw_sameRuns.f k t330 t334).bind fun t354 => (if t354 = true then (if t333 = t337 then ((lw_equal.f k bt338.1 bt338.2.1 bt346.1 bt346.2.1).bind fun t355 => (if t355 = true then (lw_CaptureReads.j0 k (bt338.2.2 != bt346.2.2) l0_0 l0_1) else (lw_CaptureReads.j0 k true l0_0 l0_1))) else (lw_CaptureReads.j0 k true l0_0 l0_1)) else (lw_CaptureReads.j0 k true l0_0 l0_1))))) = some r := H
   have A10 := Aside0.mk A100
   clear A100
   replace H := Option.bind_eq_some_iff.mp H
   obtain ⟨⟨t338, t341, t344⟩, A110, H⟩ := H
   replace H : ((rf_Slice.f k l0_0 l0_1 a2 a3).bind fun bt346 => ((lw_sameRuns.f k t330 t334).bind fun t354 => (if t354 = true then (if t333 = t337 then ((lw_equal.f k t338 t341 bt346.1 bt346.2.1).bind fun t355 => (if t355 = true then (lw_CaptureReads.j0 k (t344 != bt346.2.2) l0_0 l0_1) else (lw_CaptureReads.j0 k true l0_0 l0_1))) else (lw_CaptureReads.j0 k true l0_0 l0_1)) else (lw_CaptureReads.j0 k true l0_0 l0_1)))) = some r := H
   have A11 := Aside0.mk A110
   clear A110
   replace H := Option.bind_eq_some_iff.mp H
   obtain ⟨⟨t346, t349, t352⟩, A120, H⟩ := H
   replace H : ((lw_sameRuns.f k t330 t334).bind fun t354 => (if t354 = true then (if t333 = t337 then ((lw_equal.f k t338 t341 t346 t349).bind fun t355 => (if t355 = true then (lw_CaptureReads.j0 k (t344 != t352) l0_0 l0_1) else (lw_CaptureReads.j0 k true l0_0 l0_1))) else (lw_CaptureReads.j0 k true l0_0 l0_1)) else (lw_CaptureReads.j0 k true l0_0 l0_1))) = some r := H
   have A12 := Aside0.mk A120
   clear A120
   have HC13 := Aside0.mk H
   clear H
   go_enter Try.func9, Try.ntmps9
   go_upto_region 9 with (first | ((with_reducible refine gate_dst (N := 4) rfl ?_); refine box_event ?hg (N := 4) ?hd (cs := #[.slice A0_0 l0_0.length c0_0, .slice A0_1 l0_1.length c0_1]) (t := 25) ?hr ?_; (case hd => rfl); (case hg => rfl); (case hr => first | (go_simp; done) | (go_simp; rfl)); intro gb327 hg w14 hbox hb; have n0_ := Aside0.mk (below_step (by repeat (first | (with_reducible first | exact HB.out | apply below_alloc | apply pw_below_drewN | apply below_drew1) | exact HB.out)) hb); have n1_ := Aside0.mk (hbox); have n2_ := Aside0.mk ((by rw [hg]; exact (below_size (by repeat (first | (with_reducible first | exact HB.out | apply below_alloc | apply pw_below_drewN | apply below_drew1) | exact HB.out))) : w.heap.size ≤ gb327)); have n3_ := Aside0.mk ((by rw [hg]; exact (below_size (by repeat (first | (with_reducible first | exact HB.out | apply below_alloc | apply pw_below_drewN | apply below_drew1) | exact HB.out))) : w.heap.size ≤ gb327)); clear HB; have HB := n0_; have BK327 := n1_; have GW327 := n2_; have GE327 := n3_; clear n0_ n1_ n2_ n3_; clear hb hbox hg) | ((with_reducible refine gate_callee (f := 10) rfl ?_); refine goesL_ (some 20) rfl rfl Try.func10 (by kernel_rfl) rfl #[] rfl (by (try simp only [List.map_toArray, List.map_cons, List.map_nil]); first | done | rfl | (simp only [List.length_drop, List.length_take]; rfl)) ?_; (with_reducible refine (lw_lives.calls k  true _ A5.out).mono ?_); rintro e w15 ⟨rfl, hb⟩; refine ⟨_, rfl, ?_⟩; have n0_ := Aside0.mk (blk_below (g := gb327) (o := .cells #[.slice A0_0 l0_0.length c0_0, .slice A0_1 l0_1.length c0_1] 25 (0, 0)) (by (with_reducible repeat (first | refine blk_drewN ?_ _ | refine blk_drew ?_ | refine blk_alloc ?_ _)); exact BK327.out) hb); have n1_ := Aside0.mk (below_step (by repeat (first | (with_reducible first | exact HB.out | apply below_alloc | apply pw_below_drewN | apply below_drew1 | refine below_set ?_ GE327.out) | exact HB.out)) hb); clear BK327; clear HB; have BK327 := n0_; have HB := n1_; clear n0_ n1_; (try clear hb); (try clear hb2); (try clear hk); (try clear hi); have hcz16_0 : w15.cell? ⟨gb327, 0, none⟩ = some (.slice A0_0 l0_0.length c0_0) := (blk_cell BK327.out 0).trans rfl; have hcz16_1 : w15.cell? ⟨gb327, 1, none⟩ = some (.slice A0_1 l0_1.length c0_1) := (blk_cell BK327.out 1).trans rfl; have hfz16_0 := blk_frozen BK327.out 0; have hfz16_1 := blk_frozen BK327.out 1) | ((with_reducible refine gate_callee (f := 11) rfl ?_); refine goesL_ (some 23) rfl rfl Try.func11 (by kernel_rfl) rfl #[.agg #[.slice A0_0 l0_0.length c0_0, .slice A0_1 l0_1.length c0_1]] rfl (by (try simp only [List.map_toArray, List.map_cons, List.map_nil]); first | done | rfl | (simp only [List.length_drop, List.length_take]; rfl)) ?_; (with_reducible refine (lw_few.calls _ _ l0_0 _ _ l0_1 true _ ?side1 ?side2 ?side3 ?side4 A7.out).mono ?_); (case side1 => repeat (first | exact (Kd.C_below HR0_0.out HB.out) | (with_reducible refine Kd.C_alloc ?_ _) | (with_reducible refine Kd.C_drewN ?_ _) | (with_reducible refine Kd.C_drew ?_))); (case side2 => exact HC0_0.out); (case side3 => repeat (first | exact (Kd.C_below HR0_1.out HB.out) | (with_reducible refine Kd.C_alloc ?_ _) | (with_reducible refine Kd.C_drewN ?_ _) | (with_reducible refine Kd.C_drew ?_))); (case side4 => exact HC0_1.out); rintro e w17 ⟨rfl, hb⟩; refine ⟨_, rfl, ?_⟩; have n0_ := Aside0.mk (blk_below (g := gb327) (o := .cells #[.slice A0_0 l0_0.length c0_0, .slice A0_1 l0_1.length c0_1] 25 (0, 0)) (by (with_reducible repeat (first | refine blk_drewN ?_ _ | refine blk_drew ?_ | refine blk_alloc ?_ _)); exact BK327.out) hb); have n1_ := Aside0.mk (below_step (by repeat (first | (with_reducible first | exact HB.out | apply below_alloc | apply pw_below_drewN | apply below_drew1 | refine below_set ?_ GE327.out) | exact HB.out)) hb); clear BK327; clear HB; have BK327 := n0_; have HB := n1_; clear n0_ n1_; (try clear hb); (try clear hb2); (try clear hk); (try clear hi); have hcz18_0 : w17.cell? ⟨gb327, 0, none⟩ = some (.slice A0_0 l0_0.length c0_0) := (blk_cell BK327.out 0).trans rfl; have hcz18_1 : w17.cell? ⟨gb327, 1, none⟩ = some (.slice A0_1 l0_1.length c0_1) := (blk_cell BK327.out 1).trans rfl; have hfz18_0 := blk_frozen BK327.out 0; have hfz18_1 := blk_frozen BK327.out 1) | ((with_reducible refine gate_callee (f := 25) rfl ?_); refine goesL_ (some 28) rfl rfl Try.func25 (by kernel_rfl) rfl #[.agg #[.slice A0_0 l0_0.length c0_0, .slice A0_1 l0_1.length c0_1], .string a1] rfl (by (try simp only [List.map_toArray, List.map_cons, List.map_nil]); first | done | rfl | (simp only [List.length_drop, List.length_take]; rfl)) ?_; (with_reducible refine (capture_Channel.calls k _ _ l0_0 _ _ l0_1 a1 t330 t333 _ ?side1 ?side2 ?side3 ?side4 A9.out).mono ?_); (case side1 => repeat (first | exact (Kd.C_below HR0_0.out HB.out) | (with_reducible refine Kd.C_alloc ?_ _) | (with_reducible refine Kd.C_drewN ?_ _) | (with_reducible refine Kd.C_drew ?_))); (case side2 => exact HC0_0.out); (case side3 => repeat (first | exact (Kd.C_below HR0_1.out HB.out) | (with_reducible refine Kd.C_alloc ?_ _) | (with_reducible refine Kd.C_drewN ?_ _) | (with_reducible refine Kd.C_drew ?_))); (case side4 => exact HC0_1.out); rintro e w19 ⟨v331, rfl, ho0, hb⟩; refine ⟨_, rfl, ?_⟩; have n0_ := Aside0.mk (Kd.R_lower ho0 (below_size (by repeat (first | (with_reducible first | exact HB.out | apply below_alloc | apply pw_below_drewN | apply below_drew1 | refine below_set ?_ GE327.out) | exact HB.out)))); have n1_ := Aside0.mk (blk_below (g := gb327) (o := .cells #[.slice A0_0 l0_0.length c0_0, .slice A0_1 l0_1.length c0_1] 25 (0, 0)) (by (with_reducible repeat (first | refine blk_drewN ?_ _ | refine blk_drew ?_ | refine blk_alloc ?_ _)); exact BK327.out) hb); have n2_ := Aside0.mk (below_step (by repeat (first | (with_reducible first | exact HB.out | apply below_alloc | apply pw_below_drewN | apply below_drew1 | refine below_set ?_ GE327.out) | exact HB.out)) hb); clear BK327; clear HB; have HO332 := n0_; have BK327 := n1_; have HB := n2_; clear n0_ n1_ n2_; (try clear hb); (try clear hb2); (try clear hk); (try clear hi); (try clear ho0); have hcz20_0 : w19.cell? ⟨gb327, 0, none⟩ = some (.slice A0_0 l0_0.length c0_0) := (blk_cell BK327.out 0).trans rfl; have hcz20_1 : w19.cell? ⟨gb327, 1, none⟩ = some (.slice A0_1 l0_1.length c0_1) := (blk_cell BK327.out 1).trans rfl; have hfz20_0 := blk_frozen BK327.out 0; have hfz20_1 := blk_frozen BK327.out 1) | ((with_reducible refine gate_callee (f := 26) rfl ?_); refine goesL_ (some 34) rfl rfl Try.func26 (by kernel_rfl) rfl #[.agg #[.slice A0_0 l0_0.length c0_0, .slice A0_1 l0_1.length c0_1], .string a1] rfl (by (try simp only [List.map_toArray, List.map_cons, List.map_nil]); first | done | rfl | (simp only [List.length_drop, List.length_take]; rfl)) ?_; (with_reducible refine (rf_Channel.calls k _ _ l0_0 _ _ l0_1 a1 t334 t337 _ ?side1 ?side2 ?side3 ?side4 A10.out).mono ?_); (case side1 => repeat (first | exact (Kd.C_below HR0_0.out HB.out) | (with_reducible refine Kd.C_alloc ?_ _) | (with_reducible refine Kd.C_drewN ?_ _) | (with_reducible refine Kd.C_drew ?_))); (case side2 => exact HC0_0.out); (case side3 => repeat (first | exact (Kd.C_below HR0_1.out HB.out) | (with_reducible refine Kd.C_alloc ?_ _) | (with_reducible refine Kd.C_drewN ?_ _) | (with_reducible refine Kd.C_drew ?_))); (case side4 => exact HC0_1.out); rintro e w21 ⟨v335, rfl, ho0, hb⟩; refine ⟨_, rfl, ?_⟩; have n0_ := Aside0.mk (Kd.R_elder' (by (with_reducible repeat (first | apply Kd.R_alloc | apply Kd.R_drewN | apply Kd.R_drew)); exact HO332.out) (Kd.R_base ho0) hb); have n1_ := Aside0.mk (Kd.R_lower (Kd.R_new' ho0 (Kd.R_lt (by (with_reducible repeat (first | apply Kd.R_alloc | apply Kd.R_drewN | apply Kd.R_drew)); exact HO332.out))) (below_size (by repeat (first | (with_reducible first | exact HB.out | apply below_alloc | apply pw_below_drewN | apply below_drew1 | refine below_set ?_ GE327.out) | exact HB.out)))); have n2_ := Aside0.mk (blk_below (g := gb327) (o := .cells #[.slice A0_0 l0_0.length c0_0, .slice A0_1 l0_1.length c0_1] 25 (0, 0)) (by (with_reducible repeat (first | refine blk_drewN ?_ _ | refine blk_drew ?_ | refine blk_alloc ?_ _)); exact BK327.out) hb); have n3_ := Aside0.mk (below_step (by repeat (first | (with_reducible first | exact HB.out | apply below_alloc | apply pw_below_drewN | apply below_drew1 | refine below_set ?_ GE327.out) | exact HB.out)) hb); clear HO332; clear BK327; clear HB; have HO332 := n0_; have HO336 := n1_; have BK327 := n2_; have HB := n3_; clear n0_ n1_ n2_ n3_; (try clear hb); (try clear hb2); (try clear hk); (try clear hi); (try clear ho0); have hcz22_0 : w21.cell? ⟨gb327, 0, none⟩ = some (.slice A0_0 l0_0.length c0_0) := (blk_cell BK327.out 0).trans rfl; have hcz22_1 : w21.cell? ⟨gb327, 1, none⟩ = some (.slice A0_1 l0_1.length c0_1) := (blk_cell BK327.out 1).trans rfl; have hfz22_0 := blk_frozen BK327.out 0; have hfz22_1 := blk_frozen BK327.out 1) | ((with_reducible refine gate_callee (f := 22) rfl ?_); refine goesL_ (some 41) rfl rfl Try.func22 (by kernel_rfl) rfl #[.agg #[.slice A0_0 l0_0.length c0_0, .slice A0_1 l0_1.length c0_1], .int .i64 a2, .int .i64 a3] rfl (by (try simp only [List.map_toArray, List.map_cons, List.map_nil]); first | done | rfl | (simp only [List.length_drop, List.length_take]; rfl)) ?_; (with_reducible refine (capture_Slice.calls k _ _ l0_0 _ _ l0_1 a2 a3 t338 t341 t344 _ ?side1 ?side2 ?side3 ?side4 A11.out).mono ?_); (case side1 => repeat (first | exact (Kd.C_below HR0_0.out HB.out) | (with_reducible refine Kd.C_alloc ?_ _) | (with_reducible refine Kd.C_drewN ?_ _) | (with_reducible refine Kd.C_drew ?_))); (case side2 => exact HC0_0.out); (case side3 => repeat (first | exact (Kd.C_below HR0_1.out HB.out) | (with_reducible refine Kd.C_alloc ?_ _) | (with_reducible refine Kd.C_drewN ?_ _) | (with_reducible refine Kd.C_drew ?_))); (case side4 => exact HC0_1.out); rintro e w23 ⟨v339, v342, rfl, ho0, ho1, hb⟩; refine ⟨_, rfl, ?_⟩; have n0_ := Aside0.mk (Kd.R_elder' (by (with_reducible repeat (first | apply Kd.R_alloc | apply Kd.R_drewN | apply Kd.R_drew)); exact HO332.out) (Kd.R_base ho1) hb); have n1_ := Aside0.mk (Kd.R_elder' (by (with_reducible repeat (first | apply Kd.R_alloc | apply Kd.R_drewN | apply Kd.R_drew)); exact HO336.out) (Kd.R_base ho1) hb); have n2_ := Aside0.mk (Kd.R_lower ho0 (below_size (by repeat (first | (with_reducible first | exact HB.out | apply below_alloc | apply pw_below_drewN | apply below_drew1 | refine below_set ?_ GE327.out) | exact HB.out)))); have n3_ := Aside0.mk (Kd.R_lower (Kd.R_new' (Kd.R_new' ho1 (Kd.R_lt (by (with_reducible repeat (first | apply Kd.R_alloc | apply Kd.R_drewN | apply Kd.R_drew)); exact HO332.out))) (Kd.R_lt (by (with_reducible repeat (first | apply Kd.R_alloc | apply Kd.R_drewN | apply Kd.R_drew)); exact HO336.out))) (below_size (by repeat (first | (with_reducible first | exact HB.out | apply below_alloc | apply pw_below_drewN | apply below_drew1 | refine below_set ?_ GE327.out) | exact HB.out)))); have n4_ := Aside0.mk (blk_below (g := gb327) (o := .cells #[.slice A0_0 l0_0.length c0_0, .slice A0_1 l0_1.length c0_1] 25 (0, 0)) (by (with_reducible repeat (first | refine blk_drewN ?_ _ | refine blk_drew ?_ | refine blk_alloc ?_ _)); exact BK327.out) hb); have n5_ := Aside0.mk (below_step (by repeat (first | (with_reducible first | exact HB.out | apply below_alloc | apply pw_below_drewN | apply below_drew1 | refine below_set ?_ GE327.out) | exact HB.out)) hb); clear HO332; clear HO336; clear BK327; clear HB; have HO332 := n0_; have HO336 := n1_; have HO340 := n2_; have HO343 := n3_; have BK327 := n4_; have HB := n5_; clear n0_ n1_ n2_ n3_ n4_ n5_; (try clear hb); (try clear hb2); (try clear hk); (try clear hi); (try clear ho0); (try clear ho1)) | ((with_reducible refine gate_dst (N := 13) rfl ?_); refine box_event ?hg (N := 13) ?hd (cs := #[.slice none 0 0, .slice none 0 0]) (t := 25) ?hr ?_; (case hd => rfl); (case hg => rfl); (case hr => first | (go_simp; done) | (go_simp; rfl)); intro gb345 hg w24 hbox hb; have n0_ := Aside0.mk (Kd.R_below (by (with_reducible repeat (first | apply Kd.R_alloc | apply Kd.R_drewN | apply Kd.R_drew)); exact HO332.out) hb); have n1_ := Aside0.mk (Kd.R_below (by (with_reducible repeat (first | apply Kd.R_alloc | apply Kd.R_drewN | apply Kd.R_drew)); exact HO336.out) hb); have n2_ := Aside0.mk (Kd.R_below (by (with_reducible repeat (first | apply Kd.R_alloc | apply Kd.R_drewN | apply Kd.R_drew)); exact HO340.out) hb); have n3_ := Aside0.mk (Kd.R_below (by (with_reducible repeat (first | apply Kd.R_alloc | apply Kd.R_drewN | apply Kd.R_drew)); exact HO343.out) hb); have n4_ := Aside0.mk (blk_below (g := gb327) (o := .cells #[.slice A0_0 l0_0.length c0_0, .slice A0_1 l0_1.length c0_1] 25 (0, 0)) (by (with_reducible repeat (first | refine blk_drewN ?_ _ | refine blk_drew ?_ | refine blk_alloc ?_ _)); exact BK327.out) hb); have n5_ := Aside0.mk (below_step (by repeat (first | (with_reducible first | exact HB.out | apply below_alloc | apply pw_below_drewN | apply below_drew1 | refine below_set ?_ GE327.out) | exact HB.out)) hb); have n6_ := Aside0.mk (hbox); have n7_ := Aside0.mk ((by rw [hg]; exact (below_size (by repeat (first | (with_reducible first | exact HB.out | apply below_alloc | apply pw_below_drewN | apply below_drew1 | refine below_set ?_ GE327.out) | exact HB.out))) : w.heap.size ≤ gb345)); have n8_ := Aside0.mk ((by rw [hg]; exact (below_size (by repeat (first | (with_reducible first | exact HB.out | apply below_alloc | apply pw_below_drewN | apply below_drew1 | refine below_set ?_ GE327.out) | exact HB.out))) : w.heap.size ≤ gb345)); have n9_ := Aside0.mk ((by rw [hg]; exact Nat.ne_of_lt (blk_lt (g := gb327) (o := .cells #[.slice A0_0 l0_0.length c0_0, .slice A0_1 l0_1.length c0_1] 25 (0, 0)) (by (with_reducible repeat (first | refine blk_drewN ?_ _ | refine blk_drew ?_ | refine blk_alloc ?_ _)); exact BK327.out)) : gb327 ≠ gb345)); have n10_ := Aside0.mk ((by rw [hg]; exact Nat.ne_of_gt (blk_lt (g := gb327) (o := .cells #[.slice A0_0 l0_0.length c0_0, .slice A0_1 l0_1.length c0_1] 25 (0, 0)) (by (with_reducible repeat (first | refine blk_drewN ?_ _ | refine blk_drew ?_ | refine blk_alloc ?_ _)); exact BK327.out)) : gb345 ≠ gb327)); clear HO332; clear HO336; clear HO340; clear HO343; clear BK327; clear HB; have HO332 := n0_; have HO336 := n1_; have HO340 := n2_; have HO343 := n3_; have BK327 := n4_; have HB := n5_; have BK345 := n6_; have GW345 := n7_; have GE345 := n8_; have NB327_345 := n9_; have NB345_327 := n10_; clear n0_ n1_ n2_ n3_ n4_ n5_ n6_ n7_ n8_ n9_ n10_; clear hb hbox hg; obtain ⟨Ao25, co25, eo25⟩ := Kd.R_slice HO340.out; subst eo25; have hnb26 := NB345_327.out; have hnc26 := NB327_345.out; have hcz27_0 : w24.cell? ⟨gb345, 0, none⟩ = some (.slice none 0 0) := (blk_cell BK345.out 0).trans rfl; have hcz27_1 : w24.cell? ⟨gb345, 1, none⟩ = some (.slice none 0 0) := (blk_cell BK345.out 1).trans rfl; have hfz27_0 := blk_frozen BK345.out 0; have hfz27_1 := blk_frozen BK345.out 1; obtain ⟨Ao28, co28, eo28⟩ := Kd.R_slice HO343.out; subst eo28; have hcz29_0 : w24.cell? ⟨gb327, 0, none⟩ = some (.slice A0_0 l0_0.length c0_0) := (blk_cell BK327.out 0).trans rfl; have hcz29_1 : w24.cell? ⟨gb327, 1, none⟩ = some (.slice A0_1 l0_1.length c0_1) := (blk_cell BK327.out 1).trans rfl; have hfz29_0 := blk_frozen BK327.out 0; have hfz29_1 := blk_frozen BK327.out 1) | ((with_reducible refine gate_callee (f := 27) rfl ?_); refine goesL_ (some 48) rfl rfl Try.func27 (by kernel_rfl) rfl #[.agg #[.slice A0_0 l0_0.length c0_0, .slice A0_1 l0_1.length c0_1], .int .i64 a2, .int .i64 a3] rfl (by (try simp only [List.map_toArray, List.map_cons, List.map_nil]); first | done | rfl | (simp only [List.length_drop, List.length_take]; rfl)) ?_; (with_reducible refine (rf_Slice.calls k _ _ l0_0 _ _ l0_1 a2 a3 t346 t349 t352 _ ?side1 ?side2 ?side3 ?side4 A12.out).mono ?_); (case side1 => exact Kd.C_below HR0_0.out (by repeat (first | (with_reducible first | exact HB.out | apply below_alloc | apply pw_below_drewN | apply below_drew1 | refine below_set ?_ GE327.out | refine below_set ?_ GE345.out) | exact HB.out))); (case side2 => exact HC0_0.out); (case side3 => exact Kd.C_below HR0_1.out (by repeat (first | (with_reducible first | exact HB.out | apply below_alloc | apply pw_below_drewN | apply below_drew1 | refine below_set ?_ GE327.out | refine below_set ?_ GE345.out) | exact HB.out))); (case side4 => exact HC0_1.out); rintro e w30 ⟨v347, v350, rfl, ho0, ho1, hb⟩; refine ⟨_, rfl, ?_⟩; have n0_ := Aside0.mk (Kd.R_elder' (by (with_reducible repeat (first | apply Kd.R_alloc | apply Kd.R_drewN | apply Kd.R_drew)); exact (Kd.R_mono (Kd.R_far (p := ⟨gb345, 1, none⟩) (Kd.R_far (p := ⟨gb345, 0, none⟩) (Kd.R_types HO332.out BK345.out (by decide)) (fun _ hk => hk.2) (.slice Ao25 t338.length co25)) (fun _ hk => hk.2) (.slice Ao28 t341.length co28)) (fun _ h_ => h_.1))) (Kd.R_base ho1) hb); have n1_ := Aside0.mk (Kd.R_elder' (by (with_reducible repeat (first | apply Kd.R_alloc | apply Kd.R_drewN | apply Kd.R_drew)); exact (Kd.R_mono (Kd.R_far (p := ⟨gb345, 1, none⟩) (Kd.R_far (p := ⟨gb345, 0, none⟩) (Kd.R_types HO336.out BK345.out (by decide)) (fun _ hk => hk.2) (.slice Ao25 t338.length co25)) (fun _ hk => hk.2) (.slice Ao28 t341.length co28)) (fun _ h_ => h_.1))) (Kd.R_base ho1) hb); have n2_ := Aside0.mk (Kd.R_elder' (by (with_reducible repeat (first | apply Kd.R_alloc | apply Kd.R_drewN | apply Kd.R_drew)); exact (Kd.R_mono (Kd.R_far (p := ⟨gb345, 1, none⟩) (Kd.R_far (p := ⟨gb345, 0, none⟩) (Kd.R_types HO340.out BK345.out (by decide)) (fun _ hk => hk.2) (.slice Ao25 t338.length co25)) (fun _ hk => hk.2) (.slice Ao28 t341.length co28)) (fun _ h_ => h_.1))) (Kd.R_base ho0) hb); have n3_ := Aside0.mk (Kd.R_elder' (by (with_reducible repeat (first | apply Kd.R_alloc | apply Kd.R_drewN | apply Kd.R_drew)); exact (Kd.R_mono (Kd.R_far (p := ⟨gb345, 1, none⟩) (Kd.R_far (p := ⟨gb345, 0, none⟩) (Kd.R_types HO343.out BK345.out (by decide)) (fun _ hk => hk.2) (.slice Ao25 t338.length co25)) (fun _ hk => hk.2) (.slice Ao28 t341.length co28)) (fun _ h_ => h_.1))) (Kd.R_base ho1) hb); have n4_ := Aside0.mk (Kd.R_lower (Kd.R_new' ho0 (Kd.R_lt (by (with_reducible repeat (first | apply Kd.R_alloc | apply Kd.R_drewN | apply Kd.R_drew)); exact (Kd.R_mono (Kd.R_far (p := ⟨gb345, 1, none⟩) (Kd.R_far (p := ⟨gb345, 0, none⟩) (Kd.R_types HO340.out BK345.out (by decide)) (fun _ hk => hk.2) (.slice Ao25 t338.length co25)) (fun _ hk => hk.2) (.slice Ao28 t341.length co28)) (fun _ h_ => h_.1))))) (below_size (by repeat (first | (with_reducible first | exact HB.out | apply below_alloc | apply pw_below_drewN | apply below_drew1 | refine below_set ?_ GE327.out | refine below_set ?_ GE345.out) | exact HB.out)))); have n5_ := Aside0.mk (Kd.R_lower (Kd.R_new' (Kd.R_new' (Kd.R_new' ho1 (Kd.R_lt (by (with_reducible repeat (first | apply Kd.R_alloc | apply Kd.R_drewN | apply Kd.R_drew)); exact (Kd.R_mono (Kd.R_far (p := ⟨gb345, 1, none⟩) (Kd.R_far (p := ⟨gb345, 0, none⟩) (Kd.R_types HO332.out BK345.out (by decide)) (fun _ hk => hk.2) (.slice Ao25 t338.length co25)) (fun _ hk => hk.2) (.slice Ao28 t341.length co28)) (fun _ h_ => h_.1))))) (Kd.R_lt (by (with_reducible repeat (first | apply Kd.R_alloc | apply Kd.R_drewN | apply Kd.R_drew)); exact (Kd.R_mono (Kd.R_far (p := ⟨gb345, 1, none⟩) (Kd.R_far (p := ⟨gb345, 0, none⟩) (Kd.R_types HO336.out BK345.out (by decide)) (fun _ hk => hk.2) (.slice Ao25 t338.length co25)) (fun _ hk => hk.2) (.slice Ao28 t341.length co28)) (fun _ h_ => h_.1))))) (Kd.R_lt (by (with_reducible repeat (first | apply Kd.R_alloc | apply Kd.R_drewN | apply Kd.R_drew)); exact (Kd.R_mono (Kd.R_far (p := ⟨gb345, 1, none⟩) (Kd.R_far (p := ⟨gb345, 0, none⟩) (Kd.R_types HO343.out BK345.out (by decide)) (fun _ hk => hk.2) (.slice Ao25 t338.length co25)) (fun _ hk => hk.2) (.slice Ao28 t341.length co28)) (fun _ h_ => h_.1))))) (below_size (by repeat (first | (with_reducible first | exact HB.out | apply below_alloc | apply pw_below_drewN | apply below_drew1 | refine below_set ?_ GE327.out | refine below_set ?_ GE345.out) | exact HB.out)))); have n6_ := Aside0.mk (blk_below (g := gb327) (o := .cells #[.slice A0_0 l0_0.length c0_0, .slice A0_1 l0_1.length c0_1] 25 (0, 0)) (by (with_reducible repeat (first | refine blk_drewN ?_ _ | refine blk_drew ?_ | refine blk_alloc ?_ _)); refine blk_far ?_ NB327_345.out _; (with_reducible repeat (first | refine blk_drewN ?_ _ | refine blk_drew ?_ | refine blk_alloc ?_ _)); refine blk_far ?_ NB327_345.out _; (with_reducible repeat (first | refine blk_drewN ?_ _ | refine blk_drew ?_ | refine blk_alloc ?_ _)); exact BK327.out) hb); have n7_ := Aside0.mk (blk_below (g := gb345) (o := .cells #[.slice Ao25 t338.length co25, .slice Ao28 t341.length co28] 25 (0, 0)) (by (with_reducible repeat (first | refine blk_drewN ?_ _ | refine blk_drew ?_ | refine blk_alloc ?_ _)); refine blk_put (cs := #[.slice Ao25 t338.length co25, .slice none 0 0]) ?_ 1 _ rfl; (with_reducible repeat (first | refine blk_drewN ?_ _ | refine blk_drew ?_ | refine blk_alloc ?_ _)); refine blk_put (cs := #[.slice none 0 0, .slice none 0 0]) ?_ 0 _ rfl; (with_reducible repeat (first | refine blk_drewN ?_ _ | refine blk_drew ?_ | refine blk_alloc ?_ _)); exact BK345.out) hb); have n8_ := Aside0.mk (below_step (by repeat (first | (with_reducible first | exact HB.out | apply below_alloc | apply pw_below_drewN | apply below_drew1 | refine below_set ?_ GE327.out | refine below_set ?_ GE345.out) | exact HB.out)) hb); clear HO332; clear HO336; clear HO340; clear HO343; clear BK327; clear BK345; clear HB; have HO332 := n0_; have HO336 := n1_; have HO340 := n2_; have HO343 := n3_; have HO348 := n4_; have HO351 := n5_; have BK327 := n6_; have BK345 := n7_; have HB := n8_; clear n0_ n1_ n2_ n3_ n4_ n5_ n6_ n7_ n8_; (try clear hb); (try clear hb2); (try clear hk); (try clear hi); (try clear ho0); (try clear ho1)) | ((with_reducible refine gate_dst (N := 15) rfl ?_); refine box_event ?hg (N := 15) ?hd (cs := #[.slice none 0 0, .slice none 0 0]) (t := 25) ?hr ?_; (case hd => rfl); (case hg => rfl); (case hr => first | (go_simp; done) | (go_simp; rfl)); intro gb353 hg w31 hbox hb; have n0_ := Aside0.mk (Kd.R_below (by (with_reducible repeat (first | apply Kd.R_alloc | apply Kd.R_drewN | apply Kd.R_drew)); exact HO332.out) hb); have n1_ := Aside0.mk (Kd.R_below (by (with_reducible repeat (first | apply Kd.R_alloc | apply Kd.R_drewN | apply Kd.R_drew)); exact HO336.out) hb); have n2_ := Aside0.mk (Kd.R_below (by (with_reducible repeat (first | apply Kd.R_alloc | apply Kd.R_drewN | apply Kd.R_drew)); exact HO340.out) hb); have n3_ := Aside0.mk (Kd.R_below (by (with_reducible repeat (first | apply Kd.R_alloc | apply Kd.R_drewN | apply Kd.R_drew)); exact HO343.out) hb); have n4_ := Aside0.mk (Kd.R_below (by (with_reducible repeat (first | apply Kd.R_alloc | apply Kd.R_drewN | apply Kd.R_drew)); exact HO348.out) hb); have n5_ := Aside0.mk (Kd.R_below (by (with_reducible repeat (first | apply Kd.R_alloc | apply Kd.R_drewN | apply Kd.R_drew)); exact HO351.out) hb); have n6_ := Aside0.mk (blk_below (g := gb327) (o := .cells #[.slice A0_0 l0_0.length c0_0, .slice A0_1 l0_1.length c0_1] 25 (0, 0)) (by (with_reducible repeat (first | refine blk_drewN ?_ _ | refine blk_drew ?_ | refine blk_alloc ?_ _)); exact BK327.out) hb); have n7_ := Aside0.mk (blk_below (g := gb345) (o := .cells #[.slice Ao25 t338.length co25, .slice Ao28 t341.length co28] 25 (0, 0)) (by (with_reducible repeat (first | refine blk_drewN ?_ _ | refine blk_drew ?_ | refine blk_alloc ?_ _)); exact BK345.out) hb); have n8_ := Aside0.mk (below_step (by repeat (first | (with_reducible first | exact HB.out | apply below_alloc | apply pw_below_drewN | apply below_drew1 | refine below_set ?_ GE327.out | refine below_set ?_ GE345.out) | exact HB.out)) hb); have n9_ := Aside0.mk (hbox); have n10_ := Aside0.mk ((by rw [hg]; exact (below_size (by repeat (first | (with_reducible first | exact HB.out | apply below_alloc | apply pw_below_drewN | apply below_drew1 | refine below_set ?_ GE327.out | refine below_set ?_ GE345.out) | exact HB.out))) : w.heap.size ≤ gb353)); have n11_ := Aside0.mk ((by rw [hg]; exact (below_size (by repeat (first | (with_reducible first | exact HB.out | apply below_alloc | apply pw_below_drewN | apply below_drew1 | refine below_set ?_ GE327.out | refine below_set ?_ GE345.out) | exact HB.out))) : w.heap.size ≤ gb353)); have n12_ := Aside0.mk ((by rw [hg]; exact Nat.ne_of_lt (blk_lt (g := gb327) (o := .cells #[.slice A0_0 l0_0.length c0_0, .slice A0_1 l0_1.length c0_1] 25 (0, 0)) (by (with_reducible repeat (first | refine blk_drewN ?_ _ | refine blk_drew ?_ | refine blk_alloc ?_ _)); exact BK327.out)) : gb327 ≠ gb353)); have n13_ := Aside0.mk ((by rw [hg]; exact Nat.ne_of_gt (blk_lt (g := gb327) (o := .cells #[.slice A0_0 l0_0.length c0_0, .slice A0_1 l0_1.length c0_1] 25 (0, 0)) (by (with_reducible repeat (first | refine blk_drewN ?_ _ | refine blk_drew ?_ | refine blk_alloc ?_ _)); exact BK327.out)) : gb353 ≠ gb327)); have n14_ := Aside0.mk ((by rw [hg]; exact Nat.ne_of_lt (blk_lt (g := gb345) (o := .cells #[.slice Ao25 t338.length co25, .slice Ao28 t341.length co28] 25 (0, 0)) (by (with_reducible repeat (first | refine blk_drewN ?_ _ | refine blk_drew ?_ | refine blk_alloc ?_ _)); exact BK345.out)) : gb345 ≠ gb353)); have n15_ := Aside0.mk ((by rw [hg]; exact Nat.ne_of_gt (blk_lt (g := gb345) (o := .cells #[.slice Ao25 t338.length co25, .slice Ao28 t341.length co28] 25 (0, 0)) (by (with_reducible repeat (first | refine blk_drewN ?_ _ | refine blk_drew ?_ | refine blk_alloc ?_ _)); exact BK345.out)) : gb353 ≠ gb345)); clear HO332; clear HO336; clear HO340; clear HO343; clear HO348; clear HO351; clear BK327; clear BK345; clear HB; have HO332 := n0_; have HO336 := n1_; have HO340 := n2_; have HO343 := n3_; have HO348 := n4_; have HO351 := n5_; have BK327 := n6_; have BK345 := n7_; have HB := n8_; have BK353 := n9_; have GW353 := n10_; have GE353 := n11_; have NB327_353 := n12_; have NB353_327 := n13_; have NB345_353 := n14_; have NB353_345 := n15_; clear n0_ n1_ n2_ n3_ n4_ n5_ n6_ n7_ n8_ n9_ n10_ n11_ n12_ n13_ n14_ n15_; clear hb hbox hg; obtain ⟨Ao32, co32, eo32⟩ := Kd.R_slice HO348.out; subst eo32; have hnb33 := NB353_327.out; have hnc33 := NB327_353.out; have hnb34 := NB353_345.out; have hnc34 := NB345_353.out; have hcz35_0 : w31.cell? ⟨gb353, 0, none⟩ = some (.slice none 0 0) := (blk_cell BK353.out 0).trans rfl; have hcz35_1 : w31.cell? ⟨gb353, 1, none⟩ = some (.slice none 0 0) := (blk_cell BK353.out 1).trans rfl; have hfz35_0 := blk_frozen BK353.out 0; have hfz35_1 := blk_frozen BK353.out 1; obtain ⟨Ao36, co36, eo36⟩ := Kd.R_slice HO351.out; subst eo36))
   (try simp only [Act.put, List.setIfInBounds_toArray, List.set_cons_zero, List.set_cons_succ])
   go_cut [70] (fun v70 wc => ∃ (kq : Nat) (x70_12 : Bool), v70 = .bool x70_12 ∧ Aside0 (lw_CaptureReads.j0 kq x70_12 l0_0 l0_1 = some r) ∧ Aside0 (kq ≤ k) ∧ Aside0 (Kd.R Kd.string 9 wc w.heap.size (fun k_ => some k_ ≠ ((.slice Ao32 t346.length co32) : Value).ownBlock) (.slice Ao25 t338.length co25) t338) ∧ Aside0 (Kd.R k48 48 wc w.heap.size (fun k_ => some k_ ≠ ((.slice Ao36 t349.length co36) : Value).ownBlock) (.slice Ao28 t341.length co28) t341) ∧ Aside0 (Kd.R Kd.string 9 wc w.heap.size (fun k_ => some k_ ≠ ((.slice Ao25 t338.length co25) : Value).ownBlock) (.slice Ao32 t346.length co32) t346) ∧ Aside0 (Kd.R k48 48 wc w.heap.size (fun k_ => some k_ ≠ ((.slice Ao28 t341.length co28) : Value).ownBlock) (.slice Ao36 t349.length co36) t349) ∧ Aside0 (wc.heap[gb327]? = some (.cells #[(.slice A0_0 l0_0.length c0_0), (.slice A0_1 l0_1.length c0_1)] 25 (0, 0))) ∧ Aside0 (wc.heap[gb345]? = some (.cells #[(.slice Ao25 t338.length co25), (.slice Ao28 t341.length co28)] 25 (0, 0))) ∧ Aside0 (wc.heap[gb353]? = some (.cells #[(.slice Ao32 t346.length co32), (.slice Ao36 t349.length co36)] 25 (0, 0))) ∧ Aside0 (Below w.heap.size w wc))
   case first =>
    have H := HC13.out
    clear HC13
    replace H := Option.bind_eq_some_iff.mp H
    obtain ⟨t354, A370, H⟩ := H
    replace H : (if t354 = true then (if t333 = t337 then ((lw_equal.f k t338 t341 t346 t349).bind fun t355 => (if t355 = true then (lw_CaptureReads.j0 k (t344 != t352) l0_0 l0_1) else (lw_CaptureReads.j0 k true l0_0 l0_1))) else (lw_CaptureReads.j0 k true l0_0 l0_1)) else (lw_CaptureReads.j0 k true l0_0 l0_1)) = some r := H
    have A37 := Aside0.mk A370
    clear A370
    by_cases c38 : t354 = true
    ·subst c38
     have H1 : (if t333 = t337 then ((lw_equal.f k t338 t341 t346 t349).bind fun t355 => (if t355 = true then (lw_CaptureReads.j0 k (t344 != t352) l0_0 l0_1) else (lw_CaptureReads.j0 k true l0_0 l0_1))) else (lw_CaptureReads.j0 k true l0_0 l0_1)) = some r := by rw [if_pos rfl] at H; exact H
     clear H
     have H := H1
     clear H1
     by_cases c39 : t333 = t337
     ·rw [if_pos c39] at H
      have c39b0 : (t333 == t337) = true := beq_iff_eq.mpr c39
      have c39b1 : (t333 != t337) = false := bne_eq_false_iff_eq.mpr c39
      clear c39
      (first | rw [c39b0] | (simp only [i64_w, i32_w]; rw [c39b0]) | skip)
      replace H := Option.bind_eq_some_iff.mp H
      obtain ⟨t355, A400, H⟩ := H
      replace H : (if t355 = true then (lw_CaptureReads.j0 k (t344 != t352) l0_0 l0_1) else (lw_CaptureReads.j0 k true l0_0 l0_1)) = some r := H
      have A40 := Aside0.mk A400
      clear A400
      by_cases c41 : t355 = true
      ·subst c41
       have H1 : (lw_CaptureReads.j0 k (t344 != t352) l0_0 l0_1) = some r := by rw [if_pos rfl] at H; exact H
       clear H
       have H := H1
       clear H1
       have H' := Aside0.mk H
       clear H
       obtain ⟨Ao42, co42, eo42⟩ := Kd.R_slice HO332.out
       subst eo42
       obtain ⟨Ao43, co43, eo43⟩ := Kd.R_slice HO336.out
       subst eo43
       go_wp2_with (first | ((with_reducible refine gate_callee (f := 28) rfl ?_); refine goesL_ (some 53) rfl rfl Try.func28 (by kernel_rfl) rfl #[.slice Ao42 t330.length co42, .slice Ao43 t334.length co43] rfl (by (try simp only [List.map_toArray, List.map_cons, List.map_nil]); first | done | rfl | (simp only [List.length_drop, List.length_take]; rfl)) ?_; (with_reducible refine (lw_sameRuns.calls k _ _ t330 _ _ t334 true _ ?side1 ?side2 ?side3 ?side4 A37.out).mono ?_); (case side1 => refine (Kd.R_reads' (e := 48) (base := w.heap.size) (ok := fun k_ => (((True ∧ some k_ ≠ (.slice Ao43 t334.length co43 : Value).ownBlock) ∧ some k_ ≠ (.slice Ao28 t341.length co28 : Value).ownBlock) ∧ some k_ ≠ (.slice Ao36 t349.length co36 : Value).ownBlock)) (n := t330.length) (c := co42) ?_).2.2; exact (by (with_reducible repeat (first | apply Kd.R_alloc | apply Kd.R_drewN | apply Kd.R_drew)); exact (Kd.R_mono (Kd.R_far (p := ⟨gb353, 1, none⟩) (Kd.R_far (p := ⟨gb353, 0, none⟩) (Kd.R_types HO332.out BK353.out (by decide)) (fun _ hk => hk.2) (.slice Ao32 t346.length co32)) (fun _ hk => hk.2) (.slice Ao36 t349.length co36)) (fun _ h_ => h_.1)))); (case side2 => exact (Kd.R_reads' HO332.out).2.1); (case side3 => refine (Kd.R_reads' (e := 48) (base := w.heap.size) (ok := fun k_ => (((True ∧ some k_ ≠ (.slice Ao42 t330.length co42 : Value).ownBlock) ∧ some k_ ≠ (.slice Ao28 t341.length co28 : Value).ownBlock) ∧ some k_ ≠ (.slice Ao36 t349.length co36 : Value).ownBlock)) (n := t334.length) (c := co43) ?_).2.2; exact (by (with_reducible repeat (first | apply Kd.R_alloc | apply Kd.R_drewN | apply Kd.R_drew)); exact (Kd.R_mono (Kd.R_far (p := ⟨gb353, 1, none⟩) (Kd.R_far (p := ⟨gb353, 0, none⟩) (Kd.R_types HO336.out BK353.out (by decide)) (fun _ hk => hk.2) (.slice Ao32 t346.length co32)) (fun _ hk => hk.2) (.slice Ao36 t349.length co36)) (fun _ h_ => h_.1)))); (case side4 => exact (Kd.R_reads' HO336.out).2.1); rintro e w' ⟨rfl, ⟨nd, rfl⟩⟩; refine ⟨_, rfl, ?_⟩; have hnb44 := NB345_327.out; have hnc44 := NB327_345.out; have hnb45 := NB345_353.out; have hnc45 := NB353_345.out; have hcz46_0 : w31.cell? ⟨gb345, 0, none⟩ = some (.slice Ao25 t338.length co25) := (blk_cell BK345.out 0).trans rfl; have hcz46_1 : w31.cell? ⟨gb345, 1, none⟩ = some (.slice Ao28 t341.length co28) := (blk_cell BK345.out 1).trans rfl; have hfz46_0 := blk_frozen BK345.out 0; have hfz46_1 := blk_frozen BK345.out 1; have hnb47 := NB353_327.out; have hnc47 := NB327_353.out; have hcz48_0 : w31.cell? ⟨gb353, 0, none⟩ = some (.slice none 0 0) := (blk_cell BK353.out 0).trans rfl; have hcz48_1 : w31.cell? ⟨gb353, 1, none⟩ = some (.slice none 0 0) := (blk_cell BK353.out 1).trans rfl; have hfz48_0 := blk_frozen BK353.out 0; have hfz48_1 := blk_frozen BK353.out 1) | (go_at_call 20; (with_reducible refine (lw_equal.calls k _ _ t338 _ _ t341 _ _ t346 _ _ t349 true _ ?side1 ?side2 ?side3 ?side4 ?side5 ?side6 ?side7 ?side8 A40.out).mono ?_); (case side1 => refine (Kd.R_reads' (e := 9) (base := w.heap.size) (ok := fun k_ => (True ∧ some k_ ≠ (.slice Ao32 t346.length co32 : Value).ownBlock)) (n := t338.length) (c := co25) ?_).2.2; exact (by (with_reducible repeat (first | apply Kd.R_alloc | apply Kd.R_drewN | apply Kd.R_drew)); exact (Kd.R_mono (Kd.R_far (p := ⟨gb353, 1, none⟩) (Kd.R_far (p := ⟨gb353, 0, none⟩) (Kd.R_types HO340.out BK353.out (by decide)) (fun _ hk => hk.2) (.slice Ao32 t346.length co32)) (fun _ hk => hk.2) (.slice Ao36 t349.length co36)) (fun _ h_ => h_.1)))); (case side2 => exact (Kd.R_reads' HO340.out).2.1); (case side3 => refine (Kd.R_reads' (e := 48) (base := w.heap.size) (ok := fun k_ => (((True ∧ some k_ ≠ (.slice Ao42 t330.length co42 : Value).ownBlock) ∧ some k_ ≠ (.slice Ao43 t334.length co43 : Value).ownBlock) ∧ some k_ ≠ (.slice Ao36 t349.length co36 : Value).ownBlock)) (n := t341.length) (c := co28) ?_).2.2; exact (by (with_reducible repeat (first | apply Kd.R_alloc | apply Kd.R_drewN | apply Kd.R_drew)); exact (Kd.R_mono (Kd.R_far (p := ⟨gb353, 1, none⟩) (Kd.R_far (p := ⟨gb353, 0, none⟩) (Kd.R_types HO343.out BK353.out (by decide)) (fun _ hk => hk.2) (.slice Ao32 t346.length co32)) (fun _ hk => hk.2) (.slice Ao36 t349.length co36)) (fun _ h_ => h_.1)))); (case side4 => exact (Kd.R_reads' HO343.out).2.1); (case side5 => refine (Kd.R_reads' (e := 9) (base := w.heap.size) (ok := fun k_ => (True ∧ some k_ ≠ (.slice Ao25 t338.length co25 : Value).ownBlock)) (n := t346.length) (c := co32) ?_).2.2; exact (by (with_reducible repeat (first | apply Kd.R_alloc | apply Kd.R_drewN | apply Kd.R_drew)); exact (Kd.R_mono (Kd.R_far (p := ⟨gb353, 1, none⟩) (Kd.R_far (p := ⟨gb353, 0, none⟩) (Kd.R_types HO348.out BK353.out (by decide)) (fun _ hk => hk.2) (.slice Ao32 t346.length co32)) (fun _ hk => hk.2) (.slice Ao36 t349.length co36)) (fun _ h_ => h_.1)))); (case side6 => exact (Kd.R_reads' HO348.out).2.1); (case side7 => refine (Kd.R_reads' (e := 48) (base := w.heap.size) (ok := fun k_ => (((True ∧ some k_ ≠ (.slice Ao42 t330.length co42 : Value).ownBlock) ∧ some k_ ≠ (.slice Ao43 t334.length co43 : Value).ownBlock) ∧ some k_ ≠ (.slice Ao28 t341.length co28 : Value).ownBlock)) (n := t349.length) (c := co36) ?_).2.2; exact (by (with_reducible repeat (first | apply Kd.R_alloc | apply Kd.R_drewN | apply Kd.R_drew)); exact (Kd.R_mono (Kd.R_far (p := ⟨gb353, 1, none⟩) (Kd.R_far (p := ⟨gb353, 0, none⟩) (Kd.R_types HO351.out BK353.out (by decide)) (fun _ hk => hk.2) (.slice Ao32 t346.length co32)) (fun _ hk => hk.2) (.slice Ao36 t349.length co36)) (fun _ h_ => h_.1)))); (case side8 => exact (Kd.R_reads' HO351.out).2.1); rintro e w49 ⟨rfl, hb⟩; have n0_ := Aside0.mk (Kd.R_below (by (with_reducible repeat (first | apply Kd.R_alloc | apply Kd.R_drewN | apply Kd.R_drew)); exact (Kd.R_mono (Kd.R_far (p := ⟨gb353, 1, none⟩) (Kd.R_far (p := ⟨gb353, 0, none⟩) (Kd.R_types HO332.out BK353.out (by decide)) (fun _ hk => hk.2) (.slice Ao32 t346.length co32)) (fun _ hk => hk.2) (.slice Ao36 t349.length co36)) (fun _ h_ => h_.1))) hb); have n1_ := Aside0.mk (Kd.R_below (by (with_reducible repeat (first | apply Kd.R_alloc | apply Kd.R_drewN | apply Kd.R_drew)); exact (Kd.R_mono (Kd.R_far (p := ⟨gb353, 1, none⟩) (Kd.R_far (p := ⟨gb353, 0, none⟩) (Kd.R_types HO336.out BK353.out (by decide)) (fun _ hk => hk.2) (.slice Ao32 t346.length co32)) (fun _ hk => hk.2) (.slice Ao36 t349.length co36)) (fun _ h_ => h_.1))) hb); have n2_ := Aside0.mk (Kd.R_below (by (with_reducible repeat (first | apply Kd.R_alloc | apply Kd.R_drewN | apply Kd.R_drew)); exact (Kd.R_mono (Kd.R_far (p := ⟨gb353, 1, none⟩) (Kd.R_far (p := ⟨gb353, 0, none⟩) (Kd.R_types HO340.out BK353.out (by decide)) (fun _ hk => hk.2) (.slice Ao32 t346.length co32)) (fun _ hk => hk.2) (.slice Ao36 t349.length co36)) (fun _ h_ => h_.1))) hb); have n3_ := Aside0.mk (Kd.R_below (by (with_reducible repeat (first | apply Kd.R_alloc | apply Kd.R_drewN | apply Kd.R_drew)); exact (Kd.R_mono (Kd.R_far (p := ⟨gb353, 1, none⟩) (Kd.R_far (p := ⟨gb353, 0, none⟩) (Kd.R_types HO343.out BK353.out (by decide)) (fun _ hk => hk.2) (.slice Ao32 t346.length co32)) (fun _ hk => hk.2) (.slice Ao36 t349.length co36)) (fun _ h_ => h_.1))) hb); have n4_ := Aside0.mk (Kd.R_below (by (with_reducible repeat (first | apply Kd.R_alloc | apply Kd.R_drewN | apply Kd.R_drew)); exact (Kd.R_mono (Kd.R_far (p := ⟨gb353, 1, none⟩) (Kd.R_far (p := ⟨gb353, 0, none⟩) (Kd.R_types HO348.out BK353.out (by decide)) (fun _ hk => hk.2) (.slice Ao32 t346.length co32)) (fun _ hk => hk.2) (.slice Ao36 t349.length co36)) (fun _ h_ => h_.1))) hb); have n5_ := Aside0.mk (Kd.R_below (by (with_reducible repeat (first | apply Kd.R_alloc | apply Kd.R_drewN | apply Kd.R_drew)); exact (Kd.R_mono (Kd.R_far (p := ⟨gb353, 1, none⟩) (Kd.R_far (p := ⟨gb353, 0, none⟩) (Kd.R_types HO351.out BK353.out (by decide)) (fun _ hk => hk.2) (.slice Ao32 t346.length co32)) (fun _ hk => hk.2) (.slice Ao36 t349.length co36)) (fun _ h_ => h_.1))) hb); have n6_ := Aside0.mk (blk_below (g := gb327) (o := .cells #[.slice A0_0 l0_0.length c0_0, .slice A0_1 l0_1.length c0_1] 25 (0, 0)) (by (with_reducible repeat (first | refine blk_drewN ?_ _ | refine blk_drew ?_ | refine blk_alloc ?_ _)); refine blk_far ?_ NB327_353.out _; (with_reducible repeat (first | refine blk_drewN ?_ _ | refine blk_drew ?_ | refine blk_alloc ?_ _)); refine blk_far ?_ NB327_353.out _; (with_reducible repeat (first | refine blk_drewN ?_ _ | refine blk_drew ?_ | refine blk_alloc ?_ _)); exact BK327.out) hb); have n7_ := Aside0.mk (blk_below (g := gb345) (o := .cells #[.slice Ao25 t338.length co25, .slice Ao28 t341.length co28] 25 (0, 0)) (by (with_reducible repeat (first | refine blk_drewN ?_ _ | refine blk_drew ?_ | refine blk_alloc ?_ _)); refine blk_far ?_ NB345_353.out _; (with_reducible repeat (first | refine blk_drewN ?_ _ | refine blk_drew ?_ | refine blk_alloc ?_ _)); refine blk_far ?_ NB345_353.out _; (with_reducible repeat (first | refine blk_drewN ?_ _ | refine blk_drew ?_ | refine blk_alloc ?_ _)); exact BK345.out) hb); have n8_ := Aside0.mk (blk_below (g := gb353) (o := .cells #[.slice Ao32 t346.length co32, .slice Ao36 t349.length co36] 25 (0, 0)) (by (with_reducible repeat (first | refine blk_drewN ?_ _ | refine blk_drew ?_ | refine blk_alloc ?_ _)); refine blk_put (cs := #[.slice Ao32 t346.length co32, .slice none 0 0]) ?_ 1 _ rfl; (with_reducible repeat (first | refine blk_drewN ?_ _ | refine blk_drew ?_ | refine blk_alloc ?_ _)); refine blk_put (cs := #[.slice none 0 0, .slice none 0 0]) ?_ 0 _ rfl; (with_reducible repeat (first | refine blk_drewN ?_ _ | refine blk_drew ?_ | refine blk_alloc ?_ _)); exact BK353.out) hb); have n9_ := Aside0.mk (below_step (by repeat (first | (with_reducible first | exact HB.out | apply below_alloc | apply pw_below_drewN | apply below_drew1 | refine below_set ?_ GE327.out | refine below_set ?_ GE345.out | refine below_set ?_ GE353.out) | exact HB.out)) hb); clear HO332; clear HO336; clear HO340; clear HO343; clear HO348; clear HO351; clear BK327; clear BK345; clear BK353; clear HB; have HO332 := n0_; have HO336 := n1_; have HO340 := n2_; have HO343 := n3_; have HO348 := n4_; have HO351 := n5_; have BK327 := n6_; have BK345 := n7_; have BK353 := n8_; have HB := n9_; clear n0_ n1_ n2_ n3_ n4_ n5_ n6_ n7_ n8_ n9_; (try clear hb); (try clear hb2); (try clear hk); (try clear hi)))
       go_meet
       case rel => exact ⟨_, ((t344 != t352)), (by first | rfl | (simp; done) | (simp [*]; done)), H', ⟨by first | omega | exact Nat.le_refl _⟩, ⟨by (with_reducible repeat (first | apply Kd.R_alloc | apply Kd.R_drewN | apply Kd.R_drew)); exact Kd.R_mono HO340.out (fun _ hk => hk.2)⟩, ⟨by (with_reducible repeat (first | apply Kd.R_alloc | apply Kd.R_drewN | apply Kd.R_drew)); exact Kd.R_mono HO343.out (fun _ hk => hk.2)⟩, ⟨by (with_reducible repeat (first | apply Kd.R_alloc | apply Kd.R_drewN | apply Kd.R_drew)); exact Kd.R_mono HO348.out (fun _ hk => hk.2)⟩, ⟨by (with_reducible repeat (first | apply Kd.R_alloc | apply Kd.R_drewN | apply Kd.R_drew)); exact Kd.R_mono HO351.out (fun _ hk => hk.2)⟩, ⟨by (with_reducible repeat (first | refine blk_drewN ?_ _ | refine blk_drew ?_ | refine blk_alloc ?_ _)); exact BK327.out⟩, ⟨by (with_reducible repeat (first | refine blk_drewN ?_ _ | refine blk_drew ?_ | refine blk_alloc ?_ _)); exact BK345.out⟩, ⟨by (with_reducible repeat (first | refine blk_drewN ?_ _ | refine blk_drew ?_ | refine blk_alloc ?_ _)); exact BK353.out⟩, ⟨by repeat (first | (with_reducible first | exact HB.out | apply below_alloc | apply pw_below_drewN | apply below_drew1 | refine below_set ?_ GE327.out | refine below_set ?_ GE345.out | refine below_set ?_ GE353.out) | exact HB.out)⟩⟩
      ·replace c41 := Bool.eq_false_iff.mpr c41
       subst c41
       have H1 : (lw_CaptureReads.j0 k true l0_0 l0_1) = some r := by rw [if_neg (show ¬ (false = true) by decide)] at H; exact H
       clear H
       have H := H1
       clear H1
       have H' := Aside0.mk H
       clear H
       obtain ⟨Ao50, co50, eo50⟩ := Kd.R_slice HO332.out
       subst eo50
       obtain ⟨Ao51, co51, eo51⟩ := Kd.R_slice HO336.out
       subst eo51
       go_wp2_with (first | ((with_reducible refine gate_callee (f := 28) rfl ?_); refine goesL_ (some 53) rfl rfl Try.func28 (by kernel_rfl) rfl #[.slice Ao50 t330.length co50, .slice Ao51 t334.length co51] rfl (by (try simp only [List.map_toArray, List.map_cons, List.map_nil]); first | done | rfl | (simp only [List.length_drop, List.length_take]; rfl)) ?_; (with_reducible refine (lw_sameRuns.calls k _ _ t330 _ _ t334 true _ ?side1 ?side2 ?side3 ?side4 A37.out).mono ?_); (case side1 => refine (Kd.R_reads' (e := 48) (base := w.heap.size) (ok := fun k_ => (((True ∧ some k_ ≠ (.slice Ao51 t334.length co51 : Value).ownBlock) ∧ some k_ ≠ (.slice Ao28 t341.length co28 : Value).ownBlock) ∧ some k_ ≠ (.slice Ao36 t349.length co36 : Value).ownBlock)) (n := t330.length) (c := co50) ?_).2.2; exact (by (with_reducible repeat (first | apply Kd.R_alloc | apply Kd.R_drewN | apply Kd.R_drew)); exact (Kd.R_mono (Kd.R_far (p := ⟨gb353, 1, none⟩) (Kd.R_far (p := ⟨gb353, 0, none⟩) (Kd.R_types HO332.out BK353.out (by decide)) (fun _ hk => hk.2) (.slice Ao32 t346.length co32)) (fun _ hk => hk.2) (.slice Ao36 t349.length co36)) (fun _ h_ => h_.1)))); (case side2 => exact (Kd.R_reads' HO332.out).2.1); (case side3 => refine (Kd.R_reads' (e := 48) (base := w.heap.size) (ok := fun k_ => (((True ∧ some k_ ≠ (.slice Ao50 t330.length co50 : Value).ownBlock) ∧ some k_ ≠ (.slice Ao28 t341.length co28 : Value).ownBlock) ∧ some k_ ≠ (.slice Ao36 t349.length co36 : Value).ownBlock)) (n := t334.length) (c := co51) ?_).2.2; exact (by (with_reducible repeat (first | apply Kd.R_alloc | apply Kd.R_drewN | apply Kd.R_drew)); exact (Kd.R_mono (Kd.R_far (p := ⟨gb353, 1, none⟩) (Kd.R_far (p := ⟨gb353, 0, none⟩) (Kd.R_types HO336.out BK353.out (by decide)) (fun _ hk => hk.2) (.slice Ao32 t346.length co32)) (fun _ hk => hk.2) (.slice Ao36 t349.length co36)) (fun _ h_ => h_.1)))); (case side4 => exact (Kd.R_reads' HO336.out).2.1); rintro e w' ⟨rfl, ⟨nd, rfl⟩⟩; refine ⟨_, rfl, ?_⟩; have hnb52 := NB345_327.out; have hnc52 := NB327_345.out; have hnb53 := NB345_353.out; have hnc53 := NB353_345.out; have hcz54_0 : w31.cell? ⟨gb345, 0, none⟩ = some (.slice Ao25 t338.length co25) := (blk_cell BK345.out 0).trans rfl; have hcz54_1 : w31.cell? ⟨gb345, 1, none⟩ = some (.slice Ao28 t341.length co28) := (blk_cell BK345.out 1).trans rfl; have hfz54_0 := blk_frozen BK345.out 0; have hfz54_1 := blk_frozen BK345.out 1; have hnb55 := NB353_327.out; have hnc55 := NB327_353.out; have hcz56_0 : w31.cell? ⟨gb353, 0, none⟩ = some (.slice none 0 0) := (blk_cell BK353.out 0).trans rfl; have hcz56_1 : w31.cell? ⟨gb353, 1, none⟩ = some (.slice none 0 0) := (blk_cell BK353.out 1).trans rfl; have hfz56_0 := blk_frozen BK353.out 0; have hfz56_1 := blk_frozen BK353.out 1) | (go_at_call 20; (with_reducible refine (lw_equal.calls k _ _ t338 _ _ t341 _ _ t346 _ _ t349 false _ ?side1 ?side2 ?side3 ?side4 ?side5 ?side6 ?side7 ?side8 A40.out).mono ?_); (case side1 => refine (Kd.R_reads' (e := 9) (base := w.heap.size) (ok := fun k_ => (True ∧ some k_ ≠ (.slice Ao32 t346.length co32 : Value).ownBlock)) (n := t338.length) (c := co25) ?_).2.2; exact (by (with_reducible repeat (first | apply Kd.R_alloc | apply Kd.R_drewN | apply Kd.R_drew)); exact (Kd.R_mono (Kd.R_far (p := ⟨gb353, 1, none⟩) (Kd.R_far (p := ⟨gb353, 0, none⟩) (Kd.R_types HO340.out BK353.out (by decide)) (fun _ hk => hk.2) (.slice Ao32 t346.length co32)) (fun _ hk => hk.2) (.slice Ao36 t349.length co36)) (fun _ h_ => h_.1)))); (case side2 => exact (Kd.R_reads' HO340.out).2.1); (case side3 => refine (Kd.R_reads' (e := 48) (base := w.heap.size) (ok := fun k_ => (((True ∧ some k_ ≠ (.slice Ao50 t330.length co50 : Value).ownBlock) ∧ some k_ ≠ (.slice Ao51 t334.length co51 : Value).ownBlock) ∧ some k_ ≠ (.slice Ao36 t349.length co36 : Value).ownBlock)) (n := t341.length) (c := co28) ?_).2.2; exact (by (with_reducible repeat (first | apply Kd.R_alloc | apply Kd.R_drewN | apply Kd.R_drew)); exact (Kd.R_mono (Kd.R_far (p := ⟨gb353, 1, none⟩) (Kd.R_far (p := ⟨gb353, 0, none⟩) (Kd.R_types HO343.out BK353.out (by decide)) (fun _ hk => hk.2) (.slice Ao32 t346.length co32)) (fun _ hk => hk.2) (.slice Ao36 t349.length co36)) (fun _ h_ => h_.1)))); (case side4 => exact (Kd.R_reads' HO343.out).2.1); (case side5 => refine (Kd.R_reads' (e := 9) (base := w.heap.size) (ok := fun k_ => (True ∧ some k_ ≠ (.slice Ao25 t338.length co25 : Value).ownBlock)) (n := t346.length) (c := co32) ?_).2.2; exact (by (with_reducible repeat (first | apply Kd.R_alloc | apply Kd.R_drewN | apply Kd.R_drew)); exact (Kd.R_mono (Kd.R_far (p := ⟨gb353, 1, none⟩) (Kd.R_far (p := ⟨gb353, 0, none⟩) (Kd.R_types HO348.out BK353.out (by decide)) (fun _ hk => hk.2) (.slice Ao32 t346.length co32)) (fun _ hk => hk.2) (.slice Ao36 t349.length co36)) (fun _ h_ => h_.1)))); (case side6 => exact (Kd.R_reads' HO348.out).2.1); (case side7 => refine (Kd.R_reads' (e := 48) (base := w.heap.size) (ok := fun k_ => (((True ∧ some k_ ≠ (.slice Ao50 t330.length co50 : Value).ownBlock) ∧ some k_ ≠ (.slice Ao51 t334.length co51 : Value).ownBlock) ∧ some k_ ≠ (.slice Ao28 t341.length co28 : Value).ownBlock)) (n := t349.length) (c := co36) ?_).2.2; exact (by (with_reducible repeat (first | apply Kd.R_alloc | apply Kd.R_drewN | apply Kd.R_drew)); exact (Kd.R_mono (Kd.R_far (p := ⟨gb353, 1, none⟩) (Kd.R_far (p := ⟨gb353, 0, none⟩) (Kd.R_types HO351.out BK353.out (by decide)) (fun _ hk => hk.2) (.slice Ao32 t346.length co32)) (fun _ hk => hk.2) (.slice Ao36 t349.length co36)) (fun _ h_ => h_.1)))); (case side8 => exact (Kd.R_reads' HO351.out).2.1); rintro e w57 ⟨rfl, hb⟩; have n0_ := Aside0.mk (Kd.R_below (by (with_reducible repeat (first | apply Kd.R_alloc | apply Kd.R_drewN | apply Kd.R_drew)); exact (Kd.R_mono (Kd.R_far (p := ⟨gb353, 1, none⟩) (Kd.R_far (p := ⟨gb353, 0, none⟩) (Kd.R_types HO332.out BK353.out (by decide)) (fun _ hk => hk.2) (.slice Ao32 t346.length co32)) (fun _ hk => hk.2) (.slice Ao36 t349.length co36)) (fun _ h_ => h_.1))) hb); have n1_ := Aside0.mk (Kd.R_below (by (with_reducible repeat (first | apply Kd.R_alloc | apply Kd.R_drewN | apply Kd.R_drew)); exact (Kd.R_mono (Kd.R_far (p := ⟨gb353, 1, none⟩) (Kd.R_far (p := ⟨gb353, 0, none⟩) (Kd.R_types HO336.out BK353.out (by decide)) (fun _ hk => hk.2) (.slice Ao32 t346.length co32)) (fun _ hk => hk.2) (.slice Ao36 t349.length co36)) (fun _ h_ => h_.1))) hb); have n2_ := Aside0.mk (Kd.R_below (by (with_reducible repeat (first | apply Kd.R_alloc | apply Kd.R_drewN | apply Kd.R_drew)); exact (Kd.R_mono (Kd.R_far (p := ⟨gb353, 1, none⟩) (Kd.R_far (p := ⟨gb353, 0, none⟩) (Kd.R_types HO340.out BK353.out (by decide)) (fun _ hk => hk.2) (.slice Ao32 t346.length co32)) (fun _ hk => hk.2) (.slice Ao36 t349.length co36)) (fun _ h_ => h_.1))) hb); have n3_ := Aside0.mk (Kd.R_below (by (with_reducible repeat (first | apply Kd.R_alloc | apply Kd.R_drewN | apply Kd.R_drew)); exact (Kd.R_mono (Kd.R_far (p := ⟨gb353, 1, none⟩) (Kd.R_far (p := ⟨gb353, 0, none⟩) (Kd.R_types HO343.out BK353.out (by decide)) (fun _ hk => hk.2) (.slice Ao32 t346.length co32)) (fun _ hk => hk.2) (.slice Ao36 t349.length co36)) (fun _ h_ => h_.1))) hb); have n4_ := Aside0.mk (Kd.R_below (by (with_reducible repeat (first | apply Kd.R_alloc | apply Kd.R_drewN | apply Kd.R_drew)); exact (Kd.R_mono (Kd.R_far (p := ⟨gb353, 1, none⟩) (Kd.R_far (p := ⟨gb353, 0, none⟩) (Kd.R_types HO348.out BK353.out (by decide)) (fun _ hk => hk.2) (.slice Ao32 t346.length co32)) (fun _ hk => hk.2) (.slice Ao36 t349.length co36)) (fun _ h_ => h_.1))) hb); have n5_ := Aside0.mk (Kd.R_below (by (with_reducible repeat (first | apply Kd.R_alloc | apply Kd.R_drewN | apply Kd.R_drew)); exact (Kd.R_mono (Kd.R_far (p := ⟨gb353, 1, none⟩) (Kd.R_far (p := ⟨gb353, 0, none⟩) (Kd.R_types HO351.out BK353.out (by decide)) (fun _ hk => hk.2) (.slice Ao32 t346.length co32)) (fun _ hk => hk.2) (.slice Ao36 t349.length co36)) (fun _ h_ => h_.1))) hb); have n6_ := Aside0.mk (blk_below (g := gb327) (o := .cells #[.slice A0_0 l0_0.length c0_0, .slice A0_1 l0_1.length c0_1] 25 (0, 0)) (by (with_reducible repeat (first | refine blk_drewN ?_ _ | refine blk_drew ?_ | refine blk_alloc ?_ _)); refine blk_far ?_ NB327_353.out _; (with_reducible repeat (first | refine blk_drewN ?_ _ | refine blk_drew ?_ | refine blk_alloc ?_ _)); refine blk_far ?_ NB327_353.out _; (with_reducible repeat (first | refine blk_drewN ?_ _ | refine blk_drew ?_ | refine blk_alloc ?_ _)); exact BK327.out) hb); have n7_ := Aside0.mk (blk_below (g := gb345) (o := .cells #[.slice Ao25 t338.length co25, .slice Ao28 t341.length co28] 25 (0, 0)) (by (with_reducible repeat (first | refine blk_drewN ?_ _ | refine blk_drew ?_ | refine blk_alloc ?_ _)); refine blk_far ?_ NB345_353.out _; (with_reducible repeat (first | refine blk_drewN ?_ _ | refine blk_drew ?_ | refine blk_alloc ?_ _)); refine blk_far ?_ NB345_353.out _; (with_reducible repeat (first | refine blk_drewN ?_ _ | refine blk_drew ?_ | refine blk_alloc ?_ _)); exact BK345.out) hb); have n8_ := Aside0.mk (blk_below (g := gb353) (o := .cells #[.slice Ao32 t346.length co32, .slice Ao36 t349.length co36] 25 (0, 0)) (by (with_reducible repeat (first | refine blk_drewN ?_ _ | refine blk_drew ?_ | refine blk_alloc ?_ _)); refine blk_put (cs := #[.slice Ao32 t346.length co32, .slice none 0 0]) ?_ 1 _ rfl; (with_reducible repeat (first | refine blk_drewN ?_ _ | refine blk_drew ?_ | refine blk_alloc ?_ _)); refine blk_put (cs := #[.slice none 0 0, .slice none 0 0]) ?_ 0 _ rfl; (with_reducible repeat (first | refine blk_drewN ?_ _ | refine blk_drew ?_ | refine blk_alloc ?_ _)); exact BK353.out) hb); have n9_ := Aside0.mk (below_step (by repeat (first | (with_reducible first | exact HB.out | apply below_alloc | apply pw_below_drewN | apply below_drew1 | refine below_set ?_ GE327.out | refine below_set ?_ GE345.out | refine below_set ?_ GE353.out) | exact HB.out)) hb); clear HO332; clear HO336; clear HO340; clear HO343; clear HO348; clear HO351; clear BK327; clear BK345; clear BK353; clear HB; have HO332 := n0_; have HO336 := n1_; have HO340 := n2_; have HO343 := n3_; have HO348 := n4_; have HO351 := n5_; have BK327 := n6_; have BK345 := n7_; have BK353 := n8_; have HB := n9_; clear n0_ n1_ n2_ n3_ n4_ n5_ n6_ n7_ n8_ n9_; (try clear hb); (try clear hb2); (try clear hk); (try clear hi)))
       go_meet
       case rel => exact ⟨_, (true), (by first | rfl | (simp; done) | (simp [*]; done)), H', ⟨by first | omega | exact Nat.le_refl _⟩, ⟨by (with_reducible repeat (first | apply Kd.R_alloc | apply Kd.R_drewN | apply Kd.R_drew)); exact Kd.R_mono HO340.out (fun _ hk => hk.2)⟩, ⟨by (with_reducible repeat (first | apply Kd.R_alloc | apply Kd.R_drewN | apply Kd.R_drew)); exact Kd.R_mono HO343.out (fun _ hk => hk.2)⟩, ⟨by (with_reducible repeat (first | apply Kd.R_alloc | apply Kd.R_drewN | apply Kd.R_drew)); exact Kd.R_mono HO348.out (fun _ hk => hk.2)⟩, ⟨by (with_reducible repeat (first | apply Kd.R_alloc | apply Kd.R_drewN | apply Kd.R_drew)); exact Kd.R_mono HO351.out (fun _ hk => hk.2)⟩, ⟨by (with_reducible repeat (first | refine blk_drewN ?_ _ | refine blk_drew ?_ | refine blk_alloc ?_ _)); exact BK327.out⟩, ⟨by (with_reducible repeat (first | refine blk_drewN ?_ _ | refine blk_drew ?_ | refine blk_alloc ?_ _)); exact BK345.out⟩, ⟨by (with_reducible repeat (first | refine blk_drewN ?_ _ | refine blk_drew ?_ | refine blk_alloc ?_ _)); exact BK353.out⟩, ⟨by repeat (first | (with_reducible first | exact HB.out | apply below_alloc | apply pw_below_drewN | apply below_drew1 | refine below_set ?_ GE327.out | refine below_set ?_ GE345.out | refine below_set ?_ GE353.out) | exact HB.out)⟩⟩
     ·rw [if_neg c39] at H
      have c39b0 : (t333 == t337) = false := beq_eq_false_iff_ne.mpr c39
      have c39b1 : (t333 != t337) = true := bne_iff_ne.mpr c39
      (first | rw [c39b0] | (simp only [i64_w, i32_w]; rw [c39b0]) | skip)
      have H' := Aside0.mk H
      clear H
      obtain ⟨Ao58, co58, eo58⟩ := Kd.R_slice HO332.out
      subst eo58
      obtain ⟨Ao59, co59, eo59⟩ := Kd.R_slice HO336.out
      subst eo59
      go_wp2_with (first | ((with_reducible refine gate_callee (f := 28) rfl ?_); refine goesL_ (some 53) rfl rfl Try.func28 (by kernel_rfl) rfl #[.slice Ao58 t330.length co58, .slice Ao59 t334.length co59] rfl (by (try simp only [List.map_toArray, List.map_cons, List.map_nil]); first | done | rfl | (simp only [List.length_drop, List.length_take]; rfl)) ?_; (with_reducible refine (lw_sameRuns.calls k _ _ t330 _ _ t334 true _ ?side1 ?side2 ?side3 ?side4 A37.out).mono ?_); (case side1 => refine (Kd.R_reads' (e := 48) (base := w.heap.size) (ok := fun k_ => (((True ∧ some k_ ≠ (.slice Ao59 t334.length co59 : Value).ownBlock) ∧ some k_ ≠ (.slice Ao28 t341.length co28 : Value).ownBlock) ∧ some k_ ≠ (.slice Ao36 t349.length co36 : Value).ownBlock)) (n := t330.length) (c := co58) ?_).2.2; exact (by (with_reducible repeat (first | apply Kd.R_alloc | apply Kd.R_drewN | apply Kd.R_drew)); exact (Kd.R_mono (Kd.R_far (p := ⟨gb353, 1, none⟩) (Kd.R_far (p := ⟨gb353, 0, none⟩) (Kd.R_types HO332.out BK353.out (by decide)) (fun _ hk => hk.2) (.slice Ao32 t346.length co32)) (fun _ hk => hk.2) (.slice Ao36 t349.length co36)) (fun _ h_ => h_.1)))); (case side2 => exact (Kd.R_reads' HO332.out).2.1); (case side3 => refine (Kd.R_reads' (e := 48) (base := w.heap.size) (ok := fun k_ => (((True ∧ some k_ ≠ (.slice Ao58 t330.length co58 : Value).ownBlock) ∧ some k_ ≠ (.slice Ao28 t341.length co28 : Value).ownBlock) ∧ some k_ ≠ (.slice Ao36 t349.length co36 : Value).ownBlock)) (n := t334.length) (c := co59) ?_).2.2; exact (by (with_reducible repeat (first | apply Kd.R_alloc | apply Kd.R_drewN | apply Kd.R_drew)); exact (Kd.R_mono (Kd.R_far (p := ⟨gb353, 1, none⟩) (Kd.R_far (p := ⟨gb353, 0, none⟩) (Kd.R_types HO336.out BK353.out (by decide)) (fun _ hk => hk.2) (.slice Ao32 t346.length co32)) (fun _ hk => hk.2) (.slice Ao36 t349.length co36)) (fun _ h_ => h_.1)))); (case side4 => exact (Kd.R_reads' HO336.out).2.1); rintro e w' ⟨rfl, ⟨nd, rfl⟩⟩; refine ⟨_, rfl, ?_⟩))
      go_meet
      case rel => exact ⟨_, (true), (by first | rfl | (simp; done) | (simp [*]; done)), H', ⟨by first | omega | exact Nat.le_refl _⟩, ⟨by (with_reducible repeat (first | apply Kd.R_alloc | apply Kd.R_drewN | apply Kd.R_drew)); exact Kd.R_mono (Kd.R_far (p := ⟨gb353, 1, none⟩) (Kd.R_far (p := ⟨gb353, 0, none⟩) (Kd.R_types HO340.out BK353.out (by decide)) (fun _ hk => hk.2) (.slice Ao32 t346.length co32)) (fun _ hk => hk.2) (.slice Ao36 t349.length co36)) (fun _ hk => hk.1.2)⟩, ⟨by (with_reducible repeat (first | apply Kd.R_alloc | apply Kd.R_drewN | apply Kd.R_drew)); exact Kd.R_mono (Kd.R_far (p := ⟨gb353, 1, none⟩) (Kd.R_far (p := ⟨gb353, 0, none⟩) (Kd.R_types HO343.out BK353.out (by decide)) (fun _ hk => hk.2) (.slice Ao32 t346.length co32)) (fun _ hk => hk.2) (.slice Ao36 t349.length co36)) (fun _ hk => hk.1.2)⟩, ⟨by (with_reducible repeat (first | apply Kd.R_alloc | apply Kd.R_drewN | apply Kd.R_drew)); exact Kd.R_mono (Kd.R_far (p := ⟨gb353, 1, none⟩) (Kd.R_far (p := ⟨gb353, 0, none⟩) (Kd.R_types HO348.out BK353.out (by decide)) (fun _ hk => hk.2) (.slice Ao32 t346.length co32)) (fun _ hk => hk.2) (.slice Ao36 t349.length co36)) (fun _ hk => hk.1.2)⟩, ⟨by (with_reducible repeat (first | apply Kd.R_alloc | apply Kd.R_drewN | apply Kd.R_drew)); exact Kd.R_mono (Kd.R_far (p := ⟨gb353, 1, none⟩) (Kd.R_far (p := ⟨gb353, 0, none⟩) (Kd.R_types HO351.out BK353.out (by decide)) (fun _ hk => hk.2) (.slice Ao32 t346.length co32)) (fun _ hk => hk.2) (.slice Ao36 t349.length co36)) (fun _ hk => hk.1.2)⟩, ⟨by (with_reducible repeat (first | refine blk_drewN ?_ _ | refine blk_drew ?_ | refine blk_alloc ?_ _)); refine blk_far ?_ NB327_353.out _; (with_reducible repeat (first | refine blk_drewN ?_ _ | refine blk_drew ?_ | refine blk_alloc ?_ _)); refine blk_far ?_ NB327_353.out _; (with_reducible repeat (first | refine blk_drewN ?_ _ | refine blk_drew ?_ | refine blk_alloc ?_ _)); exact BK327.out⟩, ⟨by (with_reducible repeat (first | refine blk_drewN ?_ _ | refine blk_drew ?_ | refine blk_alloc ?_ _)); refine blk_far ?_ NB345_353.out _; (with_reducible repeat (first | refine blk_drewN ?_ _ | refine blk_drew ?_ | refine blk_alloc ?_ _)); refine blk_far ?_ NB345_353.out _; (with_reducible repeat (first | refine blk_drewN ?_ _ | refine blk_drew ?_ | refine blk_alloc ?_ _)); exact BK345.out⟩, ⟨by (with_reducible repeat (first | refine blk_drewN ?_ _ | refine blk_drew ?_ | refine blk_alloc ?_ _)); refine blk_put (cs := #[.slice Ao32 t346.length co32, .slice none 0 0]) ?_ 1 _ rfl; (with_reducible repeat (first | refine blk_drewN ?_ _ | refine blk_drew ?_ | refine blk_alloc ?_ _)); refine blk_put (cs := #[.slice none 0 0, .slice none 0 0]) ?_ 0 _ rfl; (with_reducible repeat (first | refine blk_drewN ?_ _ | refine blk_drew ?_ | refine blk_alloc ?_ _)); exact BK353.out⟩, ⟨by repeat (first | (with_reducible first | exact HB.out | apply below_alloc | apply pw_below_drewN | apply below_drew1 | refine below_set ?_ GE327.out | refine below_set ?_ GE345.out | refine below_set ?_ GE353.out) | exact HB.out)⟩⟩
    ·replace c38 := Bool.eq_false_iff.mpr c38
     subst c38
     have H1 : (lw_CaptureReads.j0 k true l0_0 l0_1) = some r := by rw [if_neg (show ¬ (false = true) by decide)] at H; exact H
     clear H
     have H := H1
     clear H1
     have H' := Aside0.mk H
     clear H
     obtain ⟨Ao60, co60, eo60⟩ := Kd.R_slice HO332.out
     subst eo60
     obtain ⟨Ao61, co61, eo61⟩ := Kd.R_slice HO336.out
     subst eo61
     go_wp2_with (first | ((with_reducible refine gate_callee (f := 28) rfl ?_); refine goesL_ (some 53) rfl rfl Try.func28 (by kernel_rfl) rfl #[.slice Ao60 t330.length co60, .slice Ao61 t334.length co61] rfl (by (try simp only [List.map_toArray, List.map_cons, List.map_nil]); first | done | rfl | (simp only [List.length_drop, List.length_take]; rfl)) ?_; (with_reducible refine (lw_sameRuns.calls k _ _ t330 _ _ t334 false _ ?side1 ?side2 ?side3 ?side4 A37.out).mono ?_); (case side1 => refine (Kd.R_reads' (e := 48) (base := w.heap.size) (ok := fun k_ => (((True ∧ some k_ ≠ (.slice Ao61 t334.length co61 : Value).ownBlock) ∧ some k_ ≠ (.slice Ao28 t341.length co28 : Value).ownBlock) ∧ some k_ ≠ (.slice Ao36 t349.length co36 : Value).ownBlock)) (n := t330.length) (c := co60) ?_).2.2; exact (by (with_reducible repeat (first | apply Kd.R_alloc | apply Kd.R_drewN | apply Kd.R_drew)); exact (Kd.R_mono (Kd.R_far (p := ⟨gb353, 1, none⟩) (Kd.R_far (p := ⟨gb353, 0, none⟩) (Kd.R_types HO332.out BK353.out (by decide)) (fun _ hk => hk.2) (.slice Ao32 t346.length co32)) (fun _ hk => hk.2) (.slice Ao36 t349.length co36)) (fun _ h_ => h_.1)))); (case side2 => exact (Kd.R_reads' HO332.out).2.1); (case side3 => refine (Kd.R_reads' (e := 48) (base := w.heap.size) (ok := fun k_ => (((True ∧ some k_ ≠ (.slice Ao60 t330.length co60 : Value).ownBlock) ∧ some k_ ≠ (.slice Ao28 t341.length co28 : Value).ownBlock) ∧ some k_ ≠ (.slice Ao36 t349.length co36 : Value).ownBlock)) (n := t334.length) (c := co61) ?_).2.2; exact (by (with_reducible repeat (first | apply Kd.R_alloc | apply Kd.R_drewN | apply Kd.R_drew)); exact (Kd.R_mono (Kd.R_far (p := ⟨gb353, 1, none⟩) (Kd.R_far (p := ⟨gb353, 0, none⟩) (Kd.R_types HO336.out BK353.out (by decide)) (fun _ hk => hk.2) (.slice Ao32 t346.length co32)) (fun _ hk => hk.2) (.slice Ao36 t349.length co36)) (fun _ h_ => h_.1)))); (case side4 => exact (Kd.R_reads' HO336.out).2.1); rintro e w' ⟨rfl, ⟨nd, rfl⟩⟩; refine ⟨_, rfl, ?_⟩))
     go_meet
     case rel => exact ⟨_, (true), (by first | rfl | (simp; done) | (simp [*]; done)), H', ⟨by first | omega | exact Nat.le_refl _⟩, ⟨by (with_reducible repeat (first | apply Kd.R_alloc | apply Kd.R_drewN | apply Kd.R_drew)); exact Kd.R_mono (Kd.R_far (p := ⟨gb353, 1, none⟩) (Kd.R_far (p := ⟨gb353, 0, none⟩) (Kd.R_types HO340.out BK353.out (by decide)) (fun _ hk => hk.2) (.slice Ao32 t346.length co32)) (fun _ hk => hk.2) (.slice Ao36 t349.length co36)) (fun _ hk => hk.1.2)⟩, ⟨by (with_reducible repeat (first | apply Kd.R_alloc | apply Kd.R_drewN | apply Kd.R_drew)); exact Kd.R_mono (Kd.R_far (p := ⟨gb353, 1, none⟩) (Kd.R_far (p := ⟨gb353, 0, none⟩) (Kd.R_types HO343.out BK353.out (by decide)) (fun _ hk => hk.2) (.slice Ao32 t346.length co32)) (fun _ hk => hk.2) (.slice Ao36 t349.length co36)) (fun _ hk => hk.1.2)⟩, ⟨by (with_reducible repeat (first | apply Kd.R_alloc | apply Kd.R_drewN | apply Kd.R_drew)); exact Kd.R_mono (Kd.R_far (p := ⟨gb353, 1, none⟩) (Kd.R_far (p := ⟨gb353, 0, none⟩) (Kd.R_types HO348.out BK353.out (by decide)) (fun _ hk => hk.2) (.slice Ao32 t346.length co32)) (fun _ hk => hk.2) (.slice Ao36 t349.length co36)) (fun _ hk => hk.1.2)⟩, ⟨by (with_reducible repeat (first | apply Kd.R_alloc | apply Kd.R_drewN | apply Kd.R_drew)); exact Kd.R_mono (Kd.R_far (p := ⟨gb353, 1, none⟩) (Kd.R_far (p := ⟨gb353, 0, none⟩) (Kd.R_types HO351.out BK353.out (by decide)) (fun _ hk => hk.2) (.slice Ao32 t346.length co32)) (fun _ hk => hk.2) (.slice Ao36 t349.length co36)) (fun _ hk => hk.1.2)⟩, ⟨by (with_reducible repeat (first | refine blk_drewN ?_ _ | refine blk_drew ?_ | refine blk_alloc ?_ _)); refine blk_far ?_ NB327_353.out _; (with_reducible repeat (first | refine blk_drewN ?_ _ | refine blk_drew ?_ | refine blk_alloc ?_ _)); refine blk_far ?_ NB327_353.out _; (with_reducible repeat (first | refine blk_drewN ?_ _ | refine blk_drew ?_ | refine blk_alloc ?_ _)); exact BK327.out⟩, ⟨by (with_reducible repeat (first | refine blk_drewN ?_ _ | refine blk_drew ?_ | refine blk_alloc ?_ _)); refine blk_far ?_ NB345_353.out _; (with_reducible repeat (first | refine blk_drewN ?_ _ | refine blk_drew ?_ | refine blk_alloc ?_ _)); refine blk_far ?_ NB345_353.out _; (with_reducible repeat (first | refine blk_drewN ?_ _ | refine blk_drew ?_ | refine blk_alloc ?_ _)); exact BK345.out⟩, ⟨by (with_reducible repeat (first | refine blk_drewN ?_ _ | refine blk_drew ?_ | refine blk_alloc ?_ _)); refine blk_put (cs := #[.slice Ao32 t346.length co32, .slice none 0 0]) ?_ 1 _ rfl; (with_reducible repeat (first | refine blk_drewN ?_ _ | refine blk_drew ?_ | refine blk_alloc ?_ _)); refine blk_put (cs := #[.slice none 0 0, .slice none 0 0]) ?_ 0 _ rfl; (with_reducible repeat (first | refine blk_drewN ?_ _ | refine blk_drew ?_ | refine blk_alloc ?_ _)); exact BK353.out⟩, ⟨by repeat (first | (with_reducible first | exact HB.out | apply below_alloc | apply pw_below_drewN | apply below_drew1 | refine below_set ?_ GE327.out | refine below_set ?_ GE345.out | refine below_set ?_ GE353.out) | exact HB.out)⟩⟩
   case rest =>
    clear HC13
    try clear c1
    try clear c2
    try clear p2
    try clear c3
    try clear c4
    try clear c5
    try clear c6
    try clear c8
    try clear c9
    try clear c10
    try clear c11
    try clear c22
    try clear c25
    try clear c26
    try clear c27
    try clear c28
    try clear c33
    try clear c34
    try clear c38
    try clear c39
    try clear c39b0
    try clear c39b1
    try clear c41
    try clear c44
    try clear c45
    try clear c47
    try clear c52
    try clear c53
    try clear c55
    try clear hcz16_0
    try clear hcz16_1
    try clear hcz18_0
    try clear hcz18_1
    try clear hcz20_0
    try clear hcz20_1
    try clear hcz22_0
    try clear hcz22_1
    try clear hcz27_0
    try clear hcz27_1
    try clear hcz29_0
    try clear hcz29_1
    try clear hcz35_0
    try clear hcz35_1
    try clear hcz46_0
    try clear hcz46_1
    try clear hcz48_0
    try clear hcz48_1
    try clear hcz54_0
    try clear hcz54_1
    try clear hcz56_0
    try clear hcz56_1
    try clear hfz16_0
    try clear hfz16_1
    try clear hfz18_0
    try clear hfz18_1
    try clear hfz20_0
    try clear hfz20_1
    try clear hfz22_0
    try clear hfz22_1
    try clear hfz27_0
    try clear hfz27_1
    try clear hfz29_0
    try clear hfz29_1
    try clear hfz35_0
    try clear hfz35_1
    try clear hfz46_0
    try clear hfz46_1
    try clear hfz48_0
    try clear hfz48_1
    try clear hfz54_0
    try clear hfz54_1
    try clear hfz56_0
    try clear hfz56_1
    obtain ⟨kq, x70_12, rfl, HA, HJ12, HO_346000, HO_346001, HO_354000, HO_354001, BK327, BK345, BK353, HB⟩ := hcut
    cases kq with
    | zero => exact absurd HA.out (by simp [lw_CaptureReads.j0])
    | succ kj12 =>
     have H := HA.out
     clear HA
     simp only [lw_CaptureReads.j0] at H
     by_cases c62 : x70_12 = true
     ·subst c62
      have H1 : (some false) = some r := by rw [if_pos rfl] at H; exact H
      clear H
      have H := H1
      clear H1
      obtain rfl := Option.some.inj H
      go_wp2
      go_ret
      exact ⟨by first | rfl | (simp [errW_none, errW_some] <;> rfl) | (simp [*, errW_none, errW_some] <;> rfl), by repeat (first | (with_reducible first | exact HB.out | apply below_alloc | apply pw_below_drewN | apply below_drew1 | refine below_set ?_ GE327.out | refine below_set ?_ GE345.out | refine below_set ?_ GE353.out) | exact HB.out)⟩
     ·replace c62 := Bool.eq_false_iff.mpr c62
      subst c62
      have H1 : ((capture_Edges.f kj12 l0_0 l0_1).bind fun t356 => ((rf_Edges.f kj12 l0_0 l0_1).bind fun t359 => (if (t356.length : Int) = (t359.length : Int) then (lw_CaptureReads.l0 kj12 t356 t359 0) else (some false)))) = some r := by rw [if_neg (show ¬ (false = true) by decide)] at H; exact H
      clear H
      have H := H1
      clear H1
      replace H := Option.bind_eq_some_iff.mp H
      obtain ⟨t356, A630, H⟩ := H
      replace H : ((rf_Edges.f kj12 l0_0 l0_1).bind fun t359 => (if (t356.length : Int) = (t359.length : Int) then (lw_CaptureReads.l0 kj12 t356 t359 0) else (some false))) = some r := H
      have A63 := Aside0.mk A630
      clear A630
      replace H := Option.bind_eq_some_iff.mp H
      obtain ⟨t359, A640, H⟩ := H
      replace H : (if (t356.length : Int) = (t359.length : Int) then (lw_CaptureReads.l0 kj12 t356 t359 0) else (some false)) = some r := H
      have A64 := Aside0.mk A640
      clear A640
      by_cases c65 : (t356.length : Int) = (t359.length : Int)
      ·rw [if_pos c65] at H
       have c65b0 : ((t356.length : Int) == (t359.length : Int)) = true := beq_iff_eq.mpr c65
       have c65b1 : ((t356.length : Int) != (t359.length : Int)) = false := bne_eq_false_iff_eq.mpr c65
       have c65b2 : (t356.length == t359.length) = true := by first | simpa using c65 | (simp at c65 ⊢; omega)
       clear c65
       have H' := Aside0.mk H
       clear H
       try go_wp2
       have n0_ := Aside0.mk (Kd.R_drew HO_346000.out)
       have n1_ := Aside0.mk (Kd.R_drew HO_346001.out)
       have n2_ := Aside0.mk (Kd.R_drew HO_354000.out)
       have n3_ := Aside0.mk (Kd.R_drew HO_354001.out)
       have n4_ := Aside0.mk (blk_drew BK327.out)
       have n5_ := Aside0.mk (blk_drew BK345.out)
       have n6_ := Aside0.mk (blk_drew BK353.out)
       have n7_ := Aside0.mk (below_drew1 HB.out)
       clear HO_346000
       clear HO_346001
       clear HO_354000
       clear HO_354001
       clear BK327
       clear BK345
       clear BK353
       clear HB
       have HO_346000 := n0_
       have HO_346001 := n1_
       have HO_354000 := n2_
       have HO_354001 := n3_
       have BK327 := n4_
       have BK345 := n5_
       have BK353 := n6_
       have HB := n7_
       clear n0_ n1_ n2_ n3_ n4_ n5_ n6_ n7_
       refine start_ (n := 6) (S := fun w' => w'.cell? ⟨gb327, 0, none⟩ = some (.slice A0_0 l0_0.length c0_0) ∧ w'.cell? ⟨gb327, 1, none⟩ = some (.slice A0_1 l0_1.length c0_1)) (ds := []) #[false, false, false, false, false, false] (by kernel_rfl) rfl rfl ⟨(blk_cell BK327.out 0).trans rfl, (blk_cell BK327.out 1).trans rfl⟩ (fun hHeld => ?_)
       generalize wc.drew = w66 at HO_346000 HO_346001 HO_354000 HO_354001 BK327 BK345 BK353 HB hHeld ⊢
       refine take_ (i := 0) (N := some 71) (v := ?_) (a' := ?_) #[true, false, false, false, false, false] rfl rfl (by kernel_rfl) (fun _ _ _ h => h) (Or.inl ⟨by rfl, ?_⟩) hHeld ?_ ?_
       rotate_left
       ·rintro w' ⟨s0, s1⟩
        go_simp
        with_reducible rfl
       rotate_left
       ·simp only [Act.put, List.setIfInBounds_toArray, List.set_cons_zero, List.set_cons_succ, i64_w, i32_w]
        rfl
       refine take_ (i := 2) (N := some 73) (v := ?_) (a' := ?_) #[true, false, true, false, false, false] rfl rfl (by kernel_rfl) (fun _ _ _ h => h) (Or.inl ⟨by rfl, ?_⟩) hHeld ?_ ?_
       rotate_left
       ·rintro w' ⟨s0, s1⟩
        go_simp
        with_reducible rfl
       rotate_left
       ·simp only [Act.put, List.setIfInBounds_toArray, List.set_cons_zero, List.set_cons_succ, i64_w, i32_w]
        rfl
       refine one_ (i := 1) (N := some 72) #[true, true, true, false, false, false] rfl rfl (by kernel_rfl) (by decide) (fun K hK => ?_)
       refine goes_ Try.func21 (by kernel_rfl) rfl #[.agg #[.slice A0_0 l0_0.length c0_0, .slice A0_1 l0_1.length c0_1]] (by rfl) rfl rfl (by (try simp only [List.map_toArray, List.map_cons, List.map_nil]); first | done | rfl | (simp only [List.length_drop, List.length_take]; rfl)) ?_
       with_reducible refine (capture_Edges.calls kj12 _ _ l0_0 _ _ l0_1 t356 _ ?side1 ?side2 ?side3 ?side4 A63.out).mono ?_
       (case side1 => repeat (first | exact (Kd.C_below HR0_0.out HB.out) | (with_reducible refine Kd.C_alloc ?_ _) | (with_reducible refine Kd.C_drewN ?_ _) | (with_reducible refine Kd.C_drew ?_)))
       (case side2 => exact HC0_0.out)
       (case side3 => repeat (first | exact (Kd.C_below HR0_1.out HB.out) | (with_reducible refine Kd.C_alloc ?_ _) | (with_reducible refine Kd.C_drewN ?_ _) | (with_reducible refine Kd.C_drew ?_)))
       (case side4 => exact HC0_1.out)
       rintro e w67 ⟨v357, rfl, ho0, hb⟩
       refine ⟨_, rfl, ?_⟩
       have n0_ := Aside0.mk (Kd.R_below (by (with_reducible repeat (first | apply Kd.R_alloc | apply Kd.R_drewN | apply Kd.R_drew)); exact HO_346000.out) hb)
       have n1_ := Aside0.mk (Kd.R_below (by (with_reducible repeat (first | apply Kd.R_alloc | apply Kd.R_drewN | apply Kd.R_drew)); exact HO_346001.out) hb)
       have n2_ := Aside0.mk (Kd.R_below (by (with_reducible repeat (first | apply Kd.R_alloc | apply Kd.R_drewN | apply Kd.R_drew)); exact HO_354000.out) hb)
       have n3_ := Aside0.mk (Kd.R_below (by (with_reducible repeat (first | apply Kd.R_alloc | apply Kd.R_drewN | apply Kd.R_drew)); exact HO_354001.out) hb)
       have n4_ := Aside0.mk (Kd.R_lower ho0 (below_size (by repeat (first | (with_reducible first | exact HB.out | apply below_alloc | apply pw_below_drewN | apply below_drew1 | refine below_set ?_ GE327.out | refine below_set ?_ GE345.out | refine below_set ?_ GE353.out) | exact HB.out))))
       have n5_ := Aside0.mk (blk_below (g := gb327) (o := .cells #[.slice A0_0 l0_0.length c0_0, .slice A0_1 l0_1.length c0_1] 25 (0, 0)) (by (with_reducible repeat (first | refine blk_drewN ?_ _ | refine blk_drew ?_ | refine blk_alloc ?_ _)); exact BK327.out) hb)
       have n6_ := Aside0.mk (blk_below (g := gb345) (o := .cells #[.slice Ao25 t338.length co25, .slice Ao28 t341.length co28] 25 (0, 0)) (by (with_reducible repeat (first | refine blk_drewN ?_ _ | refine blk_drew ?_ | refine blk_alloc ?_ _)); exact BK345.out) hb)
       have n7_ := Aside0.mk (blk_below (g := gb353) (o := .cells #[.slice Ao32 t346.length co32, .slice Ao36 t349.length co36] 25 (0, 0)) (by (with_reducible repeat (first | refine blk_drewN ?_ _ | refine blk_drew ?_ | refine blk_alloc ?_ _)); exact BK353.out) hb)
       have n8_ := Aside0.mk (below_step (by repeat (first | (with_reducible first | exact HB.out | apply below_alloc | apply pw_below_drewN | apply below_drew1 | refine below_set ?_ GE327.out | refine below_set ?_ GE345.out | refine below_set ?_ GE353.out) | exact HB.out)) hb)
       clear HO_346000
       clear HO_346001
       clear HO_354000
       clear HO_354001
       clear BK327
       clear BK345
       clear BK353
       clear HB
       have HO_346000 := n0_
       have HO_346001 := n1_
       have HO_354000 := n2_
       have HO_354001 := n3_
       have HO358 := n4_
       have BK327 := n5_
       have BK345 := n6_
       have BK353 := n7_
       have HB := n8_
       clear n0_ n1_ n2_ n3_ n4_ n5_ n6_ n7_ n8_
       (try clear hb)
       (try clear hb2)
       (try clear hk)
       (try clear hi)
       (try clear ho0)
       refine hK.out _ _ ⟨(blk_cell BK327.out 0).trans rfl, (blk_cell BK327.out 1).trans rfl⟩ (fun hHeld => ?_)
       clear hK K
       refine norm_ (a' := ?_) ?_ ?_
       rotate_left
       ·show Act.put _ (some 72) _ = _
        simp only [Act.put, List.setIfInBounds_toArray, List.set_cons_zero, List.set_cons_succ, i64_w, i32_w]
        rfl
       refine one_ (i := 3) (N := some 74) #[true, true, true, true, false, false] rfl rfl (by kernel_rfl) (by decide) (fun K hK => ?_)
       refine goes_ Try.func29 (by kernel_rfl) rfl #[.agg #[.slice A0_0 l0_0.length c0_0, .slice A0_1 l0_1.length c0_1]] (by rfl) rfl rfl (by (try simp only [List.map_toArray, List.map_cons, List.map_nil]); first | done | rfl | (simp only [List.length_drop, List.length_take]; rfl)) ?_
       with_reducible refine (rf_Edges.calls kj12 _ _ l0_0 _ _ l0_1 t359 _ ?side1 ?side2 ?side3 ?side4 A64.out).mono ?_
       (case side1 => repeat (first | exact (Kd.C_below HR0_0.out HB.out) | (with_reducible refine Kd.C_alloc ?_ _) | (with_reducible refine Kd.C_drewN ?_ _) | (with_reducible refine Kd.C_drew ?_)))
       (case side2 => exact HC0_0.out)
       (case side3 => repeat (first | exact (Kd.C_below HR0_1.out HB.out) | (with_reducible refine Kd.C_alloc ?_ _) | (with_reducible refine Kd.C_drewN ?_ _) | (with_reducible refine Kd.C_drew ?_)))
       (case side4 => exact HC0_1.out)
       rintro e w68 ⟨v360, rfl, ho0, hb⟩
       refine ⟨_, rfl, ?_⟩
       have n0_ := Aside0.mk (Kd.R_below (by (with_reducible repeat (first | apply Kd.R_alloc | apply Kd.R_drewN | apply Kd.R_drew)); exact HO_346000.out) hb)
       have n1_ := Aside0.mk (Kd.R_below (by (with_reducible repeat (first | apply Kd.R_alloc | apply Kd.R_drewN | apply Kd.R_drew)); exact HO_346001.out) hb)
       have n2_ := Aside0.mk (Kd.R_below (by (with_reducible repeat (first | apply Kd.R_alloc | apply Kd.R_drewN | apply Kd.R_drew)); exact HO_354000.out) hb)
       have n3_ := Aside0.mk (Kd.R_below (by (with_reducible repeat (first | apply Kd.R_alloc | apply Kd.R_drewN | apply Kd.R_drew)); exact HO_354001.out) hb)
       have n4_ := Aside0.mk (Kd.R_elder' (by (with_reducible repeat (first | apply Kd.R_alloc | apply Kd.R_drewN | apply Kd.R_drew)); exact HO358.out) (Kd.R_base ho0) hb)
       have n5_ := Aside0.mk (Kd.R_lower (Kd.R_new' ho0 (Kd.R_lt (by (with_reducible repeat (first | apply Kd.R_alloc | apply Kd.R_drewN | apply Kd.R_drew)); exact HO358.out))) (below_size (by repeat (first | (with_reducible first | exact HB.out | apply below_alloc | apply pw_below_drewN | apply below_drew1 | refine below_set ?_ GE327.out | refine below_set ?_ GE345.out | refine below_set ?_ GE353.out) | exact HB.out))))
       have n6_ := Aside0.mk (blk_below (g := gb327) (o := .cells #[.slice A0_0 l0_0.length c0_0, .slice A0_1 l0_1.length c0_1] 25 (0, 0)) (by (with_reducible repeat (first | refine blk_drewN ?_ _ | refine blk_drew ?_ | refine blk_alloc ?_ _)); exact BK327.out) hb)
       have n7_ := Aside0.mk (blk_below (g := gb345) (o := .cells #[.slice Ao25 t338.length co25, .slice Ao28 t341.length co28] 25 (0, 0)) (by (with_reducible repeat (first | refine blk_drewN ?_ _ | refine blk_drew ?_ | refine blk_alloc ?_ _)); exact BK345.out) hb)
       have n8_ := Aside0.mk (blk_below (g := gb353) (o := .cells #[.slice Ao32 t346.length co32, .slice Ao36 t349.length co36] 25 (0, 0)) (by (with_reducible repeat (first | refine blk_drewN ?_ _ | refine blk_drew ?_ | refine blk_alloc ?_ _)); exact BK353.out) hb)
       have n9_ := Aside0.mk (below_step (by repeat (first | (with_reducible first | exact HB.out | apply below_alloc | apply pw_below_drewN | apply below_drew1 | refine below_set ?_ GE327.out | refine below_set ?_ GE345.out | refine below_set ?_ GE353.out) | exact HB.out)) hb)
       clear HO_346000
       clear HO_346001
       clear HO_354000
       clear HO_354001
       clear HO358
       clear BK327
       clear BK345
       clear BK353
       clear HB
       have HO_346000 := n0_
       have HO_346001 := n1_
       have HO_354000 := n2_
       have HO_354001 := n3_
       have HO358 := n4_
       have HO361 := n5_
       have BK327 := n6_
       have BK345 := n7_
       have BK353 := n8_
       have HB := n9_
       clear n0_ n1_ n2_ n3_ n4_ n5_ n6_ n7_ n8_ n9_
       (try clear hb)
       (try clear hb2)
       (try clear hk)
       (try clear hi)
       (try clear ho0)
       refine hK.out _ _ ⟨(blk_cell BK327.out 0).trans rfl, (blk_cell BK327.out 1).trans rfl⟩ (fun hHeld => ?_)
       clear hK K
       refine norm_ (a' := ?_) ?_ ?_
       rotate_left
       ·show Act.put _ (some 74) _ = _
        simp only [Act.put, List.setIfInBounds_toArray, List.set_cons_zero, List.set_cons_succ, i64_w, i32_w]
        rfl
       refine pure_ (i := 4) (N := some 17) (v := ?_) (a' := ?_) #[true, true, true, true, true, false] rfl rfl (by kernel_rfl) (fun _ _ _ h => h) (Or.inl ⟨by rfl, ?_⟩) ?_ ?_
       rotate_left
       ·intro w'
        go_simp
        with_reducible rfl
       rotate_left
       ·simp only [Act.put, List.setIfInBounds_toArray, List.set_cons_zero, List.set_cons_succ, i64_w, i32_w]
        rfl
       refine pure_ (i := 5) (N := some 18) (v := ?_) (a' := ?_) #[true, true, true, true, true, true] rfl rfl (by kernel_rfl) (fun _ _ _ h => h) (Or.inl ⟨by rfl, ?_⟩) ?_ ?_
       rotate_left
       ·intro w'
        go_simp
        with_reducible rfl
       rotate_left
       ·simp only [Act.put, List.setIfInBounds_toArray, List.set_cons_zero, List.set_cons_succ, i64_w, i32_w]
        rfl
       refine done_ (by kernel_rfl) ?_
       obtain ⟨Ao69, co69, eo69⟩ := Kd.R_slice HO358.out
       subst eo69
       obtain ⟨Ao70, co70, eo70⟩ := Kd.R_slice HO361.out
       subst eo70
       try go_wp2
       go_loopg [19] kj12 (fun kq v19 w' => ∃ (x19_2 : Int), v19 = .int .i64 x19_2 ∧ Aside0 (lw_CaptureReads.l0 kq t356 t359 x19_2 = some r) ∧ Aside0 (kq ≤ kj12) ∧ Aside0 (Kd.R k42 42 w' w.heap.size (fun k_ => some k_ ≠ ((.slice Ao70 t359.length co70) : Value).ownBlock) (.slice Ao69 t356.length co69) t356) ∧ Aside0 (Kd.R k42 42 w' w.heap.size (fun k_ => some k_ ≠ ((.slice Ao69 t356.length co69) : Value).ownBlock) (.slice Ao70 t359.length co70) t359) ∧ Aside0 (Kd.R Kd.string 9 w' w.heap.size (fun k_ => some k_ ≠ ((.slice Ao32 t346.length co32) : Value).ownBlock) (.slice Ao25 t338.length co25) t338) ∧ Aside0 (Kd.R k48 48 w' w.heap.size (fun k_ => some k_ ≠ ((.slice Ao36 t349.length co36) : Value).ownBlock) (.slice Ao28 t341.length co28) t341) ∧ Aside0 (Kd.R Kd.string 9 w' w.heap.size (fun k_ => some k_ ≠ ((.slice Ao25 t338.length co25) : Value).ownBlock) (.slice Ao32 t346.length co32) t346) ∧ Aside0 (Kd.R k48 48 w' w.heap.size (fun k_ => some k_ ≠ ((.slice Ao28 t341.length co28) : Value).ownBlock) (.slice Ao36 t349.length co36) t349) ∧ Aside0 (w'.heap[gb327]? = some (.cells #[(.slice A0_0 l0_0.length c0_0), (.slice A0_1 l0_1.length c0_1)] 25 (0, 0))) ∧ Aside0 (w'.heap[gb345]? = some (.cells #[(.slice Ao25 t338.length co25), (.slice Ao28 t341.length co28)] 25 (0, 0))) ∧ Aside0 (w'.heap[gb353]? = some (.cells #[(.slice Ao32 t346.length co32), (.slice Ao36 t349.length co36)] 25 (0, 0))) ∧ Aside0 (Below w.heap.size w w'))
       case atStart => exact ⟨(0), (by first | rfl | (simp; done) | (simp [*]; done)), H', ⟨Nat.le_refl _⟩, ⟨by (with_reducible repeat (first | apply Kd.R_alloc | apply Kd.R_drewN | apply Kd.R_drew)); exact Kd.R_mono HO358.out (fun _ hk => hk.2)⟩, ⟨by (with_reducible repeat (first | apply Kd.R_alloc | apply Kd.R_drewN | apply Kd.R_drew)); exact Kd.R_mono HO361.out (fun _ hk => hk.2)⟩, ⟨by (with_reducible repeat (first | apply Kd.R_alloc | apply Kd.R_drewN | apply Kd.R_drew)); exact HO_346000.out⟩, ⟨by (with_reducible repeat (first | apply Kd.R_alloc | apply Kd.R_drewN | apply Kd.R_drew)); exact HO_346001.out⟩, ⟨by (with_reducible repeat (first | apply Kd.R_alloc | apply Kd.R_drewN | apply Kd.R_drew)); exact HO_354000.out⟩, ⟨by (with_reducible repeat (first | apply Kd.R_alloc | apply Kd.R_drewN | apply Kd.R_drew)); exact HO_354001.out⟩, ⟨by (with_reducible repeat (first | refine blk_drewN ?_ _ | refine blk_drew ?_ | refine blk_alloc ?_ _)); exact BK327.out⟩, ⟨by (with_reducible repeat (first | refine blk_drewN ?_ _ | refine blk_drew ?_ | refine blk_alloc ?_ _)); exact BK345.out⟩, ⟨by (with_reducible repeat (first | refine blk_drewN ?_ _ | refine blk_drew ?_ | refine blk_alloc ?_ _)); exact BK353.out⟩, ⟨by repeat (first | (with_reducible first | exact HB.out | apply below_alloc | apply pw_below_drewN | apply below_drew1 | refine below_set ?_ GE327.out | refine below_set ?_ GE345.out | refine below_set ?_ GE353.out) | exact HB.out)⟩⟩
       case round =>
        clear H'
        try clear c1
        try clear c2
        try clear p2
        try clear c3
        try clear c4
        try clear c5
        try clear c6
        try clear c8
        try clear c9
        try clear c10
        try clear c11
        try clear c21
        try clear c22
        try clear c25
        try clear c26
        try clear c27
        try clear c28
        try clear c29
        try clear c33
        try clear c34
        try clear c38
        try clear c39
        try clear c39b0
        try clear c39b1
        try clear c41
        try clear c44
        try clear c45
        try clear c47
        try clear c52
        try clear c53
        try clear c55
        try clear c62
        try clear c65
        try clear c65b0
        try clear c65b1
        try clear c65b2
        try clear hcz16_0
        try clear hcz16_1
        try clear hcz18_0
        try clear hcz18_1
        try clear hcz20_0
        try clear hcz20_1
        try clear hcz22_0
        try clear hcz22_1
        try clear hcz27_0
        try clear hcz27_1
        try clear hcz29_0
        try clear hcz29_1
        try clear hcz35_0
        try clear hcz35_1
        try clear hcz46_0
        try clear hcz46_1
        try clear hcz48_0
        try clear hcz48_1
        try clear hcz54_0
        try clear hcz54_1
        try clear hcz56_0
        try clear hcz56_1
        try clear hfz16_0
        try clear hfz16_1
        try clear hfz18_0
        try clear hfz18_1
        try clear hfz20_0
        try clear hfz20_1
        try clear hfz22_0
        try clear hfz22_1
        try clear hfz27_0
        try clear hfz27_1
        try clear hfz29_0
        try clear hfz29_1
        try clear hfz35_0
        try clear hfz35_1
        try clear hfz46_0
        try clear hfz46_1
        try clear hfz48_0
        try clear hfz48_1
        try clear hfz54_0
        try clear hfz54_1
        try clear hfz56_0
        try clear hfz56_1
        try clear p2
        obtain ⟨x19_2, rfl, HA, HK2, HO_17, HO_18, HO_346000, HO_346001, HO_354000, HO_354001, BK327, BK345, BK353, HB⟩ := hrel
        cases gk with
        | zero => exact absurd HA.out (by simp [lw_CaptureReads.l0])
        | succ k2 =>
         have H := HA.out
         clear HA
         simp only [lw_CaptureReads.l0] at H
         by_cases c71 : x19_2 < (t356.length : Int)
         ·rw [if_pos c71] at H
          have c71b0 : decide (x19_2 < (t356.length : Int)) = true := decide_eq_true c71
          clear c71
          by_cases c72 : 0 ≤ x19_2
          ·rw [if_pos c72] at H
           have c72b0 : decide (0 ≤ x19_2) = true := decide_eq_true c72
           clear c72
           by_cases c73 : x19_2 < (t359.length : Int)
           ·rw [if_pos c73] at H
            have c73b0 : decide (x19_2 < (t359.length : Int)) = true := decide_eq_true c73
            clear c73
            by_cases c74 : (!(((rd_T42 t356 x19_2).f0) == ((rd_T42 t359 x19_2).f0)) || (!(((rd_T42 t356 x19_2).f1) == ((rd_T42 t359 x19_2).f1)) || (!(((rd_T42 t356 x19_2).f2) == ((rd_T42 t359 x19_2).f2))))) = true
            ·rw [if_pos c74] at H
             have c74b0 : (!(((rd_T42 t356 x19_2).f0) == ((rd_T42 t359 x19_2).f0)) || (!(((rd_T42 t356 x19_2).f1) == ((rd_T42 t359 x19_2).f1)) || (!(((rd_T42 t356 x19_2).f2) == ((rd_T42 t359 x19_2).f2))))) = true := c74
             clear c74
             obtain rfl := Option.some.inj H
             try go_wp2
             have n0_ := Aside0.mk (Kd.R_drew HO_17.out)
             have n1_ := Aside0.mk (Kd.R_drew HO_18.out)
             have n2_ := Aside0.mk (Kd.R_drew HO_346000.out)
             have n3_ := Aside0.mk (Kd.R_drew HO_346001.out)
             have n4_ := Aside0.mk (Kd.R_drew HO_354000.out)
             have n5_ := Aside0.mk (Kd.R_drew HO_354001.out)
             have n6_ := Aside0.mk (blk_drew BK327.out)
             have n7_ := Aside0.mk (blk_drew BK345.out)
             have n8_ := Aside0.mk (blk_drew BK353.out)
             have n9_ := Aside0.mk (below_drew1 HB.out)
             clear HO_17
             clear HO_18
             clear HO_346000
             clear HO_346001
             clear HO_354000
             clear HO_354001
             clear BK327
             clear BK345
             clear BK353
             clear HB
             have HO_17 := n0_
             have HO_18 := n1_
             have HO_346000 := n2_
             have HO_346001 := n3_
             have HO_354000 := n4_
             have HO_354001 := n5_
             have BK327 := n6_
             have BK345 := n7_
             have BK353 := n8_
             have HB := n9_
             clear n0_ n1_ n2_ n3_ n4_ n5_ n6_ n7_ n8_ n9_
             have p362 : 0 ≤ (x19_2 : Int) := odt
             have q362 : x19_2 < (t356.length : Int) := odt
             obtain ⟨ad362, e362, hx362_0, hx362_1, hx362_2⟩ := at_T42 (Kd.R_reads' HO_17.out).2.2 x19_2 p362 q362
             cases e362
             replace p362 := eq_true p362
             replace q362 := eq_true q362
             have p363 : 0 ≤ (x19_2 : Int) := odt
             have q363 : x19_2 < (t359.length : Int) := odt
             obtain ⟨ad363, e363, hx363_0, hx363_1, hx363_2⟩ := at_T42 (Kd.R_reads' HO_18.out).2.2 x19_2 p363 q363
             cases e363
             replace p363 := eq_true p363
             replace q363 := eq_true q363
             refine start_ (n := 9) (S := fun w' => w'.cell? (ad362.add ((x19_2).toNat * 3)) = some (.int .i64 ((rd_T42 t356 x19_2).f0)) ∧ w'.cell? ⟨(ad362.add ((x19_2).toNat * 3)).block, (ad362.add ((x19_2).toNat * 3)).off + 1, none⟩ = some (.int .i64 ((rd_T42 t356 x19_2).f1)) ∧ w'.cell? ⟨(ad362.add ((x19_2).toNat * 3)).block, (ad362.add ((x19_2).toNat * 3)).off + 2, none⟩ = some (.int .i64 ((rd_T42 t356 x19_2).f2)) ∧ w'.cell? (ad363.add ((x19_2).toNat * 3)) = some (.int .i64 ((rd_T42 t359 x19_2).f0)) ∧ w'.cell? ⟨(ad363.add ((x19_2).toNat * 3)).block, (ad363.add ((x19_2).toNat * 3)).off + 1, none⟩ = some (.int .i64 ((rd_T42 t359 x19_2).f1)) ∧ w'.cell? ⟨(ad363.add ((x19_2).toNat * 3)).block, (ad363.add ((x19_2).toNat * 3)).off + 2, none⟩ = some (.int .i64 ((rd_T42 t359 x19_2).f2))) (ds := []) #[false, false, false, false, false, false, false, false, false] (by kernel_rfl) rfl rfl ⟨hx362_0, hx362_1, hx362_2, hx363_0, hx363_1, hx363_2⟩ (fun hHeld => ?_); refine with_tabW lw_CaptureReads.tab17 lw_CaptureReads.bits17 (fun HT_ HW_ => ?_)
             generalize wr.drew = w75 at HO_17 HO_18 HO_346000 HO_346001 HO_354000 HO_354001 BK327 BK345 BK353 HB hx362_0 hx362_1 hx362_2 hx363_0 hx363_1 hx363_2 hHeld ⊢
             refine pure_ (i := 0) (N := some 86) (v := ?_) (a' := ?_) #[true, false, false, false, false, false, false, false, false] rfl rfl (any_of HT_.out (by kernel_rfl)) (fun _ _ _ h => h) (Or.inl ⟨by rfl, ?_⟩) ?_ ?_
             rotate_left
             ·intro w'
              go_simp
              with_reducible rfl
             rotate_left
             ·simp only [Act.put, List.setIfInBounds_toArray, List.set_cons_zero, List.set_cons_succ, i64_w, i32_w]
              rfl
             refine pure_ (i := 1) (N := some 87) (v := ?_) (a' := ?_) #[true, true, false, false, false, false, false, false, false] rfl rfl (any_of HT_.out (by kernel_rfl)) (fun _ _ _ h => h) (Or.inl ⟨by rfl, ?_⟩) ?_ ?_
             rotate_left
             ·intro w'
              go_simp
              with_reducible rfl
             rotate_left
             ·simp only [Act.put, List.setIfInBounds_toArray, List.set_cons_zero, List.set_cons_succ, i64_w, i32_w]
              rfl
             refine pure_ (i := 2) (N := some 88) (v := ?_) (a' := ?_) #[true, true, true, false, false, false, false, false, false] rfl rfl (any_of HT_.out (by kernel_rfl)) (fun _ _ _ h => h) (Or.inl ⟨by rfl, ?_⟩) ?_ ?_
             rotate_left
             ·intro w'
              go_simp
              with_reducible rfl
             rotate_left
             ·simp only [Act.put, List.setIfInBounds_toArray, List.set_cons_zero, List.set_cons_succ, i64_w, i32_w]
              rfl
             refine pure_ (i := 4) (N := some 90) (v := ?_) (a' := ?_) #[true, true, true, false, true, false, false, false, false] rfl rfl (any_of HT_.out (by kernel_rfl)) (fun _ _ _ h => h) (Or.inl ⟨by rfl, ?_⟩) ?_ ?_
             rotate_left
             ·intro w'
              go_simp
              with_reducible rfl
             rotate_left
             ·simp only [Act.put, List.setIfInBounds_toArray, List.set_cons_zero, List.set_cons_succ, i64_w, i32_w]
              rfl
             refine pure_ (i := 5) (N := some 91) (v := ?_) (a' := ?_) #[true, true, true, false, true, true, false, false, false] rfl rfl (any_of HT_.out (by kernel_rfl)) (fun _ _ _ h => h) (Or.inl ⟨by rfl, ?_⟩) ?_ ?_
             rotate_left
             ·intro w'
              go_simp
              with_reducible rfl
             rotate_left
             ·simp only [Act.put, List.setIfInBounds_toArray, List.set_cons_zero, List.set_cons_succ, i64_w, i32_w]
              rfl
             refine pure_ (i := 6) (N := some 92) (v := ?_) (a' := ?_) #[true, true, true, false, true, true, true, false, false] rfl rfl (any_of HT_.out (by kernel_rfl)) (fun _ _ _ h => h) (Or.inl ⟨by rfl, ?_⟩) ?_ ?_
             rotate_left
             ·intro w'
              go_simp
              with_reducible rfl
             rotate_left
             ·simp only [Act.put, List.setIfInBounds_toArray, List.set_cons_zero, List.set_cons_succ, i64_w, i32_w]
              rfl
             refine take_ (i := 3) (N := some 89) (v := ?_) (a' := ?_) #[true, true, true, true, true, true, true, false, false] rfl rfl (take_ofW HT_.out HW_.out (by kernel_rfl)) (fun _ _ _ h => h) (Or.inl ⟨by rfl, ?_⟩) hHeld ?_ ?_
             rotate_left
             ·rintro w' ⟨s0, s1, s2, s3, s4, s5⟩
              go_simp
              with_reducible rfl
             rotate_left
             ·simp only [Act.put, List.setIfInBounds_toArray, List.set_cons_zero, List.set_cons_succ, i64_w, i32_w]
              rfl
             refine take_ (i := 7) (N := some 93) (v := ?_) (a' := ?_) #[true, true, true, true, true, true, true, true, false] rfl rfl (take_ofW HT_.out HW_.out (by kernel_rfl)) (fun _ _ _ h => h) (Or.inl ⟨by rfl, ?_⟩) hHeld ?_ ?_
             rotate_left
             ·rintro w' ⟨s0, s1, s2, s3, s4, s5⟩
              go_simp
              with_reducible rfl
             rotate_left
             ·simp only [Act.put, List.setIfInBounds_toArray, List.set_cons_zero, List.set_cons_succ, i64_w, i32_w]
              rfl
             refine pure_ (i := 8) (N := some 94) (v := ?_) (a' := ?_) #[true, true, true, true, true, true, true, true, true] rfl rfl (any_of HT_.out (by kernel_rfl)) (fun _ _ _ h => h) (Or.inl ⟨by rfl, ?_⟩) ?_ ?_
             rotate_left
             ·intro w'
              go_simp
              with_reducible rfl
             rotate_left
             ·simp only [Act.put, List.setIfInBounds_toArray, List.set_cons_zero, List.set_cons_succ, i64_w, i32_w]
              rfl
             refine done_ (done_of HT_.out (by kernel_rfl)) ?_
             try go_wp2
             go_ret
             exact ⟨by first | rfl | (simp [errW_none, errW_some] <;> rfl) | (simp [*, errW_none, errW_some] <;> rfl), by repeat (first | (with_reducible first | exact HB.out | apply below_alloc | apply pw_below_drewN | apply below_drew1 | refine below_set ?_ GE327.out | refine below_set ?_ GE345.out | refine below_set ?_ GE353.out) | exact HB.out)⟩
            ·rw [if_neg c74] at H
             have c74b0 : (!(((rd_T42 t356 x19_2).f0) == ((rd_T42 t359 x19_2).f0)) || (!(((rd_T42 t356 x19_2).f1) == ((rd_T42 t359 x19_2).f1)) || (!(((rd_T42 t356 x19_2).f2) == ((rd_T42 t359 x19_2).f2))))) = false := by simpa using c74
             clear c74
             have H' := Aside0.mk H
             clear H
             try go_wp2
             have n0_ := Aside0.mk (Kd.R_drew HO_17.out)
             have n1_ := Aside0.mk (Kd.R_drew HO_18.out)
             have n2_ := Aside0.mk (Kd.R_drew HO_346000.out)
             have n3_ := Aside0.mk (Kd.R_drew HO_346001.out)
             have n4_ := Aside0.mk (Kd.R_drew HO_354000.out)
             have n5_ := Aside0.mk (Kd.R_drew HO_354001.out)
             have n6_ := Aside0.mk (blk_drew BK327.out)
             have n7_ := Aside0.mk (blk_drew BK345.out)
             have n8_ := Aside0.mk (blk_drew BK353.out)
             have n9_ := Aside0.mk (below_drew1 HB.out)
             clear HO_17
             clear HO_18
             clear HO_346000
             clear HO_346001
             clear HO_354000
             clear HO_354001
             clear BK327
             clear BK345
             clear BK353
             clear HB
             have HO_17 := n0_
             have HO_18 := n1_
             have HO_346000 := n2_
             have HO_346001 := n3_
             have HO_354000 := n4_
             have HO_354001 := n5_
             have BK327 := n6_
             have BK345 := n7_
             have BK353 := n8_
             have HB := n9_
             clear n0_ n1_ n2_ n3_ n4_ n5_ n6_ n7_ n8_ n9_
             have p362 : 0 ≤ (x19_2 : Int) := odt
             have q362 : x19_2 < (t356.length : Int) := odt
             obtain ⟨ad362, e362, hx362_0, hx362_1, hx362_2⟩ := at_T42 (Kd.R_reads' HO_17.out).2.2 x19_2 p362 q362
             cases e362
             replace p362 := eq_true p362
             replace q362 := eq_true q362
             have p363 : 0 ≤ (x19_2 : Int) := odt
             have q363 : x19_2 < (t359.length : Int) := odt
             obtain ⟨ad363, e363, hx363_0, hx363_1, hx363_2⟩ := at_T42 (Kd.R_reads' HO_18.out).2.2 x19_2 p363 q363
             cases e363
             replace p363 := eq_true p363
             replace q363 := eq_true q363
             refine start_ (n := 9) (S := fun w' => w'.cell? (ad362.add ((x19_2).toNat * 3)) = some (.int .i64 ((rd_T42 t356 x19_2).f0)) ∧ w'.cell? ⟨(ad362.add ((x19_2).toNat * 3)).block, (ad362.add ((x19_2).toNat * 3)).off + 1, none⟩ = some (.int .i64 ((rd_T42 t356 x19_2).f1)) ∧ w'.cell? ⟨(ad362.add ((x19_2).toNat * 3)).block, (ad362.add ((x19_2).toNat * 3)).off + 2, none⟩ = some (.int .i64 ((rd_T42 t356 x19_2).f2)) ∧ w'.cell? (ad363.add ((x19_2).toNat * 3)) = some (.int .i64 ((rd_T42 t359 x19_2).f0)) ∧ w'.cell? ⟨(ad363.add ((x19_2).toNat * 3)).block, (ad363.add ((x19_2).toNat * 3)).off + 1, none⟩ = some (.int .i64 ((rd_T42 t359 x19_2).f1)) ∧ w'.cell? ⟨(ad363.add ((x19_2).toNat * 3)).block, (ad363.add ((x19_2).toNat * 3)).off + 2, none⟩ = some (.int .i64 ((rd_T42 t359 x19_2).f2))) (ds := []) #[false, false, false, false, false, false, false, false, false] (by kernel_rfl) rfl rfl ⟨hx362_0, hx362_1, hx362_2, hx363_0, hx363_1, hx363_2⟩ (fun hHeld => ?_); refine with_tabW lw_CaptureReads.tab17 lw_CaptureReads.bits17 (fun HT_ HW_ => ?_)
             generalize wr.drew = w76 at HO_17 HO_18 HO_346000 HO_346001 HO_354000 HO_354001 BK327 BK345 BK353 HB hx362_0 hx362_1 hx362_2 hx363_0 hx363_1 hx363_2 hHeld ⊢
             refine pure_ (i := 0) (N := some 86) (v := ?_) (a' := ?_) #[true, false, false, false, false, false, false, false, false] rfl rfl (any_of HT_.out (by kernel_rfl)) (fun _ _ _ h => h) (Or.inl ⟨by rfl, ?_⟩) ?_ ?_
             rotate_left
             ·intro w'
              go_simp
              with_reducible rfl
             rotate_left
             ·simp only [Act.put, List.setIfInBounds_toArray, List.set_cons_zero, List.set_cons_succ, i64_w, i32_w]
              rfl
             refine pure_ (i := 1) (N := some 87) (v := ?_) (a' := ?_) #[true, true, false, false, false, false, false, false, false] rfl rfl (any_of HT_.out (by kernel_rfl)) (fun _ _ _ h => h) (Or.inl ⟨by rfl, ?_⟩) ?_ ?_
             rotate_left
             ·intro w'
              go_simp
              with_reducible rfl
             rotate_left
             ·simp only [Act.put, List.setIfInBounds_toArray, List.set_cons_zero, List.set_cons_succ, i64_w, i32_w]
              rfl
             refine pure_ (i := 2) (N := some 88) (v := ?_) (a' := ?_) #[true, true, true, false, false, false, false, false, false] rfl rfl (any_of HT_.out (by kernel_rfl)) (fun _ _ _ h => h) (Or.inl ⟨by rfl, ?_⟩) ?_ ?_
             rotate_left
             ·intro w'
              go_simp
              with_reducible rfl
             rotate_left
             ·simp only [Act.put, List.setIfInBounds_toArray, List.set_cons_zero, List.set_cons_succ, i64_w, i32_w]
              rfl
             refine pure_ (i := 4) (N := some 90) (v := ?_) (a' := ?_) #[true, true, true, false, true, false, false, false, false] rfl rfl (any_of HT_.out (by kernel_rfl)) (fun _ _ _ h => h) (Or.inl ⟨by rfl, ?_⟩) ?_ ?_
             rotate_left
             ·intro w'
              go_simp
              with_reducible rfl
             rotate_left
             ·simp only [Act.put, List.setIfInBounds_toArray, List.set_cons_zero, List.set_cons_succ, i64_w, i32_w]
              rfl
             refine pure_ (i := 5) (N := some 91) (v := ?_) (a' := ?_) #[true, true, true, false, true, true, false, false, false] rfl rfl (any_of HT_.out (by kernel_rfl)) (fun _ _ _ h => h) (Or.inl ⟨by rfl, ?_⟩) ?_ ?_
             rotate_left
             ·intro w'
              go_simp
              with_reducible rfl
             rotate_left
             ·simp only [Act.put, List.setIfInBounds_toArray, List.set_cons_zero, List.set_cons_succ, i64_w, i32_w]
              rfl
             refine pure_ (i := 6) (N := some 92) (v := ?_) (a' := ?_) #[true, true, true, false, true, true, true, false, false] rfl rfl (any_of HT_.out (by kernel_rfl)) (fun _ _ _ h => h) (Or.inl ⟨by rfl, ?_⟩) ?_ ?_
             rotate_left
             ·intro w'
              go_simp
              with_reducible rfl
             rotate_left
             ·simp only [Act.put, List.setIfInBounds_toArray, List.set_cons_zero, List.set_cons_succ, i64_w, i32_w]
              rfl
             refine take_ (i := 3) (N := some 89) (v := ?_) (a' := ?_) #[true, true, true, true, true, true, true, false, false] rfl rfl (take_ofW HT_.out HW_.out (by kernel_rfl)) (fun _ _ _ h => h) (Or.inl ⟨by rfl, ?_⟩) hHeld ?_ ?_
             rotate_left
             ·rintro w' ⟨s0, s1, s2, s3, s4, s5⟩
              go_simp
              with_reducible rfl
             rotate_left
             ·simp only [Act.put, List.setIfInBounds_toArray, List.set_cons_zero, List.set_cons_succ, i64_w, i32_w]
              rfl
             refine take_ (i := 7) (N := some 93) (v := ?_) (a' := ?_) #[true, true, true, true, true, true, true, true, false] rfl rfl (take_ofW HT_.out HW_.out (by kernel_rfl)) (fun _ _ _ h => h) (Or.inl ⟨by rfl, ?_⟩) hHeld ?_ ?_
             rotate_left
             ·rintro w' ⟨s0, s1, s2, s3, s4, s5⟩
              go_simp
              with_reducible rfl
             rotate_left
             ·simp only [Act.put, List.setIfInBounds_toArray, List.set_cons_zero, List.set_cons_succ, i64_w, i32_w]
              rfl
             refine pure_ (i := 8) (N := some 94) (v := ?_) (a' := ?_) #[true, true, true, true, true, true, true, true, true] rfl rfl (any_of HT_.out (by kernel_rfl)) (fun _ _ _ h => h) (Or.inl ⟨by rfl, ?_⟩) ?_ ?_
             rotate_left
             ·intro w'
              go_simp
              with_reducible rfl
             rotate_left
             ·simp only [Act.put, List.setIfInBounds_toArray, List.set_cons_zero, List.set_cons_succ, i64_w, i32_w]
              rfl
             refine done_ (done_of HT_.out (by kernel_rfl)) ?_
             try go_wp2
             go_roundg k2
             case measure => have := HJ12.out; have := HK2.out; omega
             case rel => exact ⟨(wrap64 (x19_2 + 1)), (by first | rfl | (simp; done) | (simp [*]; done)), H', ⟨by have := HJ12.out; have := HK2.out; omega⟩, ⟨by (with_reducible repeat (first | apply Kd.R_alloc | apply Kd.R_drewN | apply Kd.R_drew)); exact HO_17.out⟩, ⟨by (with_reducible repeat (first | apply Kd.R_alloc | apply Kd.R_drewN | apply Kd.R_drew)); exact HO_18.out⟩, ⟨by (with_reducible repeat (first | apply Kd.R_alloc | apply Kd.R_drewN | apply Kd.R_drew)); exact HO_346000.out⟩, ⟨by (with_reducible repeat (first | apply Kd.R_alloc | apply Kd.R_drewN | apply Kd.R_drew)); exact HO_346001.out⟩, ⟨by (with_reducible repeat (first | apply Kd.R_alloc | apply Kd.R_drewN | apply Kd.R_drew)); exact HO_354000.out⟩, ⟨by (with_reducible repeat (first | apply Kd.R_alloc | apply Kd.R_drewN | apply Kd.R_drew)); exact HO_354001.out⟩, ⟨by (with_reducible repeat (first | refine blk_drewN ?_ _ | refine blk_drew ?_ | refine blk_alloc ?_ _)); exact BK327.out⟩, ⟨by (with_reducible repeat (first | refine blk_drewN ?_ _ | refine blk_drew ?_ | refine blk_alloc ?_ _)); exact BK345.out⟩, ⟨by (with_reducible repeat (first | refine blk_drewN ?_ _ | refine blk_drew ?_ | refine blk_alloc ?_ _)); exact BK353.out⟩, ⟨by repeat (first | (with_reducible first | exact HB.out | apply below_alloc | apply pw_below_drewN | apply below_drew1 | refine below_set ?_ GE327.out | refine below_set ?_ GE345.out | refine below_set ?_ GE353.out) | exact HB.out)⟩⟩
           ·rw [if_neg c73] at H
            exact absurd H (by simp)
          ·rw [if_neg c72] at H
           exact absurd H (by simp)
         ·rw [if_neg c71] at H
          have c71b0 : decide (x19_2 < (t356.length : Int)) = false := decide_eq_false c71
          clear c71
          obtain rfl := Option.some.inj H
          go_wp2
          go_ret
          exact ⟨by first | rfl | (simp [errW_none, errW_some] <;> rfl) | (simp [*, errW_none, errW_some] <;> rfl), by repeat (first | (with_reducible first | exact HB.out | apply below_alloc | apply pw_below_drewN | apply below_drew1 | refine below_set ?_ GE327.out | refine below_set ?_ GE345.out | refine below_set ?_ GE353.out) | exact HB.out)⟩
      ·rw [if_neg c65] at H
       have c65b0 : ((t356.length : Int) == (t359.length : Int)) = false := beq_eq_false_iff_ne.mpr c65
       have c65b1 : ((t356.length : Int) != (t359.length : Int)) = true := bne_iff_ne.mpr c65
       have c65b2 : (t356.length == t359.length) = false := by first | simpa using c65 | (simp at c65 ⊢; omega)
       obtain rfl := Option.some.inj H
       try go_wp2
       have n0_ := Aside0.mk (Kd.R_drew HO_346000.out)
       have n1_ := Aside0.mk (Kd.R_drew HO_346001.out)
       have n2_ := Aside0.mk (Kd.R_drew HO_354000.out)
       have n3_ := Aside0.mk (Kd.R_drew HO_354001.out)
       have n4_ := Aside0.mk (blk_drew BK327.out)
       have n5_ := Aside0.mk (blk_drew BK345.out)
       have n6_ := Aside0.mk (blk_drew BK353.out)
       have n7_ := Aside0.mk (below_drew1 HB.out)
       clear HO_346000
       clear HO_346001
       clear HO_354000
       clear HO_354001
       clear BK327
       clear BK345
       clear BK353
       clear HB
       have HO_346000 := n0_
       have HO_346001 := n1_
       have HO_354000 := n2_
       have HO_354001 := n3_
       have BK327 := n4_
       have BK345 := n5_
       have BK353 := n6_
       have HB := n7_
       clear n0_ n1_ n2_ n3_ n4_ n5_ n6_ n7_
       refine start_ (n := 6) (S := fun w' => w'.cell? ⟨gb327, 0, none⟩ = some (.slice A0_0 l0_0.length c0_0) ∧ w'.cell? ⟨gb327, 1, none⟩ = some (.slice A0_1 l0_1.length c0_1)) (ds := []) #[false, false, false, false, false, false] (by kernel_rfl) rfl rfl ⟨(blk_cell BK327.out 0).trans rfl, (blk_cell BK327.out 1).trans rfl⟩ (fun hHeld => ?_)
       generalize wc.drew = w77 at HO_346000 HO_346001 HO_354000 HO_354001 BK327 BK345 BK353 HB hHeld ⊢
       refine take_ (i := 0) (N := some 71) (v := ?_) (a' := ?_) #[true, false, false, false, false, false] rfl rfl (by kernel_rfl) (fun _ _ _ h => h) (Or.inl ⟨by rfl, ?_⟩) hHeld ?_ ?_
       rotate_left
       ·rintro w' ⟨s0, s1⟩
        go_simp
        with_reducible rfl
       rotate_left
       ·simp only [Act.put, List.setIfInBounds_toArray, List.set_cons_zero, List.set_cons_succ, i64_w, i32_w]
        rfl
       refine take_ (i := 2) (N := some 73) (v := ?_) (a' := ?_) #[true, false, true, false, false, false] rfl rfl (by kernel_rfl) (fun _ _ _ h => h) (Or.inl ⟨by rfl, ?_⟩) hHeld ?_ ?_
       rotate_left
       ·rintro w' ⟨s0, s1⟩
        go_simp
        with_reducible rfl
       rotate_left
       ·simp only [Act.put, List.setIfInBounds_toArray, List.set_cons_zero, List.set_cons_succ, i64_w, i32_w]
        rfl
       refine one_ (i := 1) (N := some 72) #[true, true, true, false, false, false] rfl rfl (by kernel_rfl) (by decide) (fun K hK => ?_)
       refine goes_ Try.func21 (by kernel_rfl) rfl #[.agg #[.slice A0_0 l0_0.length c0_0, .slice A0_1 l0_1.length c0_1]] (by rfl) rfl rfl (by (try simp only [List.map_toArray, List.map_cons, List.map_nil]); first | done | rfl | (simp only [List.length_drop, List.length_take]; rfl)) ?_
       with_reducible refine (capture_Edges.calls kj12 _ _ l0_0 _ _ l0_1 t356 _ ?side1 ?side2 ?side3 ?side4 A63.out).mono ?_
       (case side1 => repeat (first | exact (Kd.C_below HR0_0.out HB.out) | (with_reducible refine Kd.C_alloc ?_ _) | (with_reducible refine Kd.C_drewN ?_ _) | (with_reducible refine Kd.C_drew ?_)))
       (case side2 => exact HC0_0.out)
       (case side3 => repeat (first | exact (Kd.C_below HR0_1.out HB.out) | (with_reducible refine Kd.C_alloc ?_ _) | (with_reducible refine Kd.C_drewN ?_ _) | (with_reducible refine Kd.C_drew ?_)))
       (case side4 => exact HC0_1.out)
       rintro e w78 ⟨v357, rfl, ho0, hb⟩
       refine ⟨_, rfl, ?_⟩
       have n0_ := Aside0.mk (Kd.R_below (by (with_reducible repeat (first | apply Kd.R_alloc | apply Kd.R_drewN | apply Kd.R_drew)); exact HO_346000.out) hb)
       have n1_ := Aside0.mk (Kd.R_below (by (with_reducible repeat (first | apply Kd.R_alloc | apply Kd.R_drewN | apply Kd.R_drew)); exact HO_346001.out) hb)
       have n2_ := Aside0.mk (Kd.R_below (by (with_reducible repeat (first | apply Kd.R_alloc | apply Kd.R_drewN | apply Kd.R_drew)); exact HO_354000.out) hb)
       have n3_ := Aside0.mk (Kd.R_below (by (with_reducible repeat (first | apply Kd.R_alloc | apply Kd.R_drewN | apply Kd.R_drew)); exact HO_354001.out) hb)
       have n4_ := Aside0.mk (Kd.R_lower ho0 (below_size (by repeat (first | (with_reducible first | exact HB.out | apply below_alloc | apply pw_below_drewN | apply below_drew1 | refine below_set ?_ GE327.out | refine below_set ?_ GE345.out | refine below_set ?_ GE353.out) | exact HB.out))))
       have n5_ := Aside0.mk (blk_below (g := gb327) (o := .cells #[.slice A0_0 l0_0.length c0_0, .slice A0_1 l0_1.length c0_1] 25 (0, 0)) (by (with_reducible repeat (first | refine blk_drewN ?_ _ | refine blk_drew ?_ | refine blk_alloc ?_ _)); exact BK327.out) hb)
       have n6_ := Aside0.mk (blk_below (g := gb345) (o := .cells #[.slice Ao25 t338.length co25, .slice Ao28 t341.length co28] 25 (0, 0)) (by (with_reducible repeat (first | refine blk_drewN ?_ _ | refine blk_drew ?_ | refine blk_alloc ?_ _)); exact BK345.out) hb)
       have n7_ := Aside0.mk (blk_below (g := gb353) (o := .cells #[.slice Ao32 t346.length co32, .slice Ao36 t349.length co36] 25 (0, 0)) (by (with_reducible repeat (first | refine blk_drewN ?_ _ | refine blk_drew ?_ | refine blk_alloc ?_ _)); exact BK353.out) hb)
       have n8_ := Aside0.mk (below_step (by repeat (first | (with_reducible first | exact HB.out | apply below_alloc | apply pw_below_drewN | apply below_drew1 | refine below_set ?_ GE327.out | refine below_set ?_ GE345.out | refine below_set ?_ GE353.out) | exact HB.out)) hb)
       clear HO_346000
       clear HO_346001
       clear HO_354000
       clear HO_354001
       clear BK327
       clear BK345
       clear BK353
       clear HB
       have HO_346000 := n0_
       have HO_346001 := n1_
       have HO_354000 := n2_
       have HO_354001 := n3_
       have HO358 := n4_
       have BK327 := n5_
       have BK345 := n6_
       have BK353 := n7_
       have HB := n8_
       clear n0_ n1_ n2_ n3_ n4_ n5_ n6_ n7_ n8_
       (try clear hb)
       (try clear hb2)
       (try clear hk)
       (try clear hi)
       (try clear ho0)
       refine hK.out _ _ ⟨(blk_cell BK327.out 0).trans rfl, (blk_cell BK327.out 1).trans rfl⟩ (fun hHeld => ?_)
       clear hK K
       refine norm_ (a' := ?_) ?_ ?_
       rotate_left
       ·show Act.put _ (some 72) _ = _
        simp only [Act.put, List.setIfInBounds_toArray, List.set_cons_zero, List.set_cons_succ, i64_w, i32_w]
        rfl
       refine one_ (i := 3) (N := some 74) #[true, true, true, true, false, false] rfl rfl (by kernel_rfl) (by decide) (fun K hK => ?_)
       refine goes_ Try.func29 (by kernel_rfl) rfl #[.agg #[.slice A0_0 l0_0.length c0_0, .slice A0_1 l0_1.length c0_1]] (by rfl) rfl rfl (by (try simp only [List.map_toArray, List.map_cons, List.map_nil]); first | done | rfl | (simp only [List.length_drop, List.length_take]; rfl)) ?_
       with_reducible refine (rf_Edges.calls kj12 _ _ l0_0 _ _ l0_1 t359 _ ?side1 ?side2 ?side3 ?side4 A64.out).mono ?_
       (case side1 => repeat (first | exact (Kd.C_below HR0_0.out HB.out) | (with_reducible refine Kd.C_alloc ?_ _) | (with_reducible refine Kd.C_drewN ?_ _) | (with_reducible refine Kd.C_drew ?_)))
       (case side2 => exact HC0_0.out)
       (case side3 => repeat (first | exact (Kd.C_below HR0_1.out HB.out) | (with_reducible refine Kd.C_alloc ?_ _) | (with_reducible refine Kd.C_drewN ?_ _) | (with_reducible refine Kd.C_drew ?_)))
       (case side4 => exact HC0_1.out)
       rintro e w79 ⟨v360, rfl, ho0, hb⟩
       refine ⟨_, rfl, ?_⟩
       have n0_ := Aside0.mk (Kd.R_below (by (with_reducible repeat (first | apply Kd.R_alloc | apply Kd.R_drewN | apply Kd.R_drew)); exact HO_346000.out) hb)
       have n1_ := Aside0.mk (Kd.R_below (by (with_reducible repeat (first | apply Kd.R_alloc | apply Kd.R_drewN | apply Kd.R_drew)); exact HO_346001.out) hb)
       have n2_ := Aside0.mk (Kd.R_below (by (with_reducible repeat (first | apply Kd.R_alloc | apply Kd.R_drewN | apply Kd.R_drew)); exact HO_354000.out) hb)
       have n3_ := Aside0.mk (Kd.R_below (by (with_reducible repeat (first | apply Kd.R_alloc | apply Kd.R_drewN | apply Kd.R_drew)); exact HO_354001.out) hb)
       have n4_ := Aside0.mk (Kd.R_elder' (by (with_reducible repeat (first | apply Kd.R_alloc | apply Kd.R_drewN | apply Kd.R_drew)); exact HO358.out) (Kd.R_base ho0) hb)
       have n5_ := Aside0.mk (Kd.R_lower (Kd.R_new' ho0 (Kd.R_lt (by (with_reducible repeat (first | apply Kd.R_alloc | apply Kd.R_drewN | apply Kd.R_drew)); exact HO358.out))) (below_size (by repeat (first | (with_reducible first | exact HB.out | apply below_alloc | apply pw_below_drewN | apply below_drew1 | refine below_set ?_ GE327.out | refine below_set ?_ GE345.out | refine below_set ?_ GE353.out) | exact HB.out))))
       have n6_ := Aside0.mk (blk_below (g := gb327) (o := .cells #[.slice A0_0 l0_0.length c0_0, .slice A0_1 l0_1.length c0_1] 25 (0, 0)) (by (with_reducible repeat (first | refine blk_drewN ?_ _ | refine blk_drew ?_ | refine blk_alloc ?_ _)); exact BK327.out) hb)
       have n7_ := Aside0.mk (blk_below (g := gb345) (o := .cells #[.slice Ao25 t338.length co25, .slice Ao28 t341.length co28] 25 (0, 0)) (by (with_reducible repeat (first | refine blk_drewN ?_ _ | refine blk_drew ?_ | refine blk_alloc ?_ _)); exact BK345.out) hb)
       have n8_ := Aside0.mk (blk_below (g := gb353) (o := .cells #[.slice Ao32 t346.length co32, .slice Ao36 t349.length co36] 25 (0, 0)) (by (with_reducible repeat (first | refine blk_drewN ?_ _ | refine blk_drew ?_ | refine blk_alloc ?_ _)); exact BK353.out) hb)
       have n9_ := Aside0.mk (below_step (by repeat (first | (with_reducible first | exact HB.out | apply below_alloc | apply pw_below_drewN | apply below_drew1 | refine below_set ?_ GE327.out | refine below_set ?_ GE345.out | refine below_set ?_ GE353.out) | exact HB.out)) hb)
       clear HO_346000
       clear HO_346001
       clear HO_354000
       clear HO_354001
       clear HO358
       clear BK327
       clear BK345
       clear BK353
       clear HB
       have HO_346000 := n0_
       have HO_346001 := n1_
       have HO_354000 := n2_
       have HO_354001 := n3_
       have HO358 := n4_
       have HO361 := n5_
       have BK327 := n6_
       have BK345 := n7_
       have BK353 := n8_
       have HB := n9_
       clear n0_ n1_ n2_ n3_ n4_ n5_ n6_ n7_ n8_ n9_
       (try clear hb)
       (try clear hb2)
       (try clear hk)
       (try clear hi)
       (try clear ho0)
       refine hK.out _ _ ⟨(blk_cell BK327.out 0).trans rfl, (blk_cell BK327.out 1).trans rfl⟩ (fun hHeld => ?_)
       clear hK K
       refine norm_ (a' := ?_) ?_ ?_
       rotate_left
       ·show Act.put _ (some 74) _ = _
        simp only [Act.put, List.setIfInBounds_toArray, List.set_cons_zero, List.set_cons_succ, i64_w, i32_w]
        rfl
       refine pure_ (i := 4) (N := some 17) (v := ?_) (a' := ?_) #[true, true, true, true, true, false] rfl rfl (by kernel_rfl) (fun _ _ _ h => h) (Or.inl ⟨by rfl, ?_⟩) ?_ ?_
       rotate_left
       ·intro w'
        go_simp
        with_reducible rfl
       rotate_left
       ·simp only [Act.put, List.setIfInBounds_toArray, List.set_cons_zero, List.set_cons_succ, i64_w, i32_w]
        rfl
       refine pure_ (i := 5) (N := some 18) (v := ?_) (a' := ?_) #[true, true, true, true, true, true] rfl rfl (by kernel_rfl) (fun _ _ _ h => h) (Or.inl ⟨by rfl, ?_⟩) ?_ ?_
       rotate_left
       ·intro w'
        go_simp
        with_reducible rfl
       rotate_left
       ·simp only [Act.put, List.setIfInBounds_toArray, List.set_cons_zero, List.set_cons_succ, i64_w, i32_w]
        rfl
       refine done_ (by kernel_rfl) ?_
       obtain ⟨Ao80, co80, eo80⟩ := Kd.R_slice HO358.out
       subst eo80
       obtain ⟨Ao81, co81, eo81⟩ := Kd.R_slice HO361.out
       subst eo81
       try go_wp2
       go_ret
       exact ⟨by first | rfl | (simp [errW_none, errW_some] <;> rfl) | (simp [*, errW_none, errW_some] <;> rfl), by repeat (first | (with_reducible first | exact HB.out | apply below_alloc | apply pw_below_drewN | apply below_drew1 | refine below_set ?_ GE327.out | refine below_set ?_ GE345.out | refine below_set ?_ GE353.out) | exact HB.out)⟩
  ·replace c8 := Bool.eq_false_iff.mpr c8
   subst c8
   have H1 : (some true) = some r := by rw [if_neg (show ¬ (false = true) by decide)] at H; exact H
   clear H
   have H := H1
   clear H1
   obtain rfl := Option.some.inj H
   go_enter Try.func9, Try.ntmps9
   go_wp2_with (first | ((with_reducible refine gate_dst (N := 4) rfl ?_); refine box_event ?hg (N := 4) ?hd (cs := #[.slice A0_0 l0_0.length c0_0, .slice A0_1 l0_1.length c0_1]) (t := 25) ?hr ?_; (case hd => rfl); (case hg => rfl); (case hr => first | (go_simp; done) | (go_simp; rfl)); intro gb327 hg w82 hbox hb; have n0_ := Aside0.mk (below_step (by repeat (first | (with_reducible first | exact HB.out | apply below_alloc | apply pw_below_drewN | apply below_drew1) | exact HB.out)) hb); have n1_ := Aside0.mk (hbox); have n2_ := Aside0.mk ((by rw [hg]; exact (below_size (by repeat (first | (with_reducible first | exact HB.out | apply below_alloc | apply pw_below_drewN | apply below_drew1) | exact HB.out))) : w.heap.size ≤ gb327)); have n3_ := Aside0.mk ((by rw [hg]; exact (below_size (by repeat (first | (with_reducible first | exact HB.out | apply below_alloc | apply pw_below_drewN | apply below_drew1) | exact HB.out))) : w.heap.size ≤ gb327)); clear HB; have HB := n0_; have BK327 := n1_; have GW327 := n2_; have GE327 := n3_; clear n0_ n1_ n2_ n3_; clear hb hbox hg) | ((with_reducible refine gate_callee (f := 10) rfl ?_); refine goesL_ (some 20) rfl rfl Try.func10 (by kernel_rfl) rfl #[] rfl (by (try simp only [List.map_toArray, List.map_cons, List.map_nil]); first | done | rfl | (simp only [List.length_drop, List.length_take]; rfl)) ?_; (with_reducible refine (lw_lives.calls k  true _ A5.out).mono ?_); rintro e w83 ⟨rfl, hb⟩; refine ⟨_, rfl, ?_⟩; have n0_ := Aside0.mk (blk_below (g := gb327) (o := .cells #[.slice A0_0 l0_0.length c0_0, .slice A0_1 l0_1.length c0_1] 25 (0, 0)) (by (with_reducible repeat (first | refine blk_drewN ?_ _ | refine blk_drew ?_ | refine blk_alloc ?_ _)); exact BK327.out) hb); have n1_ := Aside0.mk (below_step (by repeat (first | (with_reducible first | exact HB.out | apply below_alloc | apply pw_below_drewN | apply below_drew1 | refine below_set ?_ GE327.out) | exact HB.out)) hb); clear BK327; clear HB; have BK327 := n0_; have HB := n1_; clear n0_ n1_; (try clear hb); (try clear hb2); (try clear hk); (try clear hi); have hcz84_0 : w83.cell? ⟨gb327, 0, none⟩ = some (.slice A0_0 l0_0.length c0_0) := (blk_cell BK327.out 0).trans rfl; have hcz84_1 : w83.cell? ⟨gb327, 1, none⟩ = some (.slice A0_1 l0_1.length c0_1) := (blk_cell BK327.out 1).trans rfl; have hfz84_0 := blk_frozen BK327.out 0; have hfz84_1 := blk_frozen BK327.out 1) | ((with_reducible refine gate_callee (f := 11) rfl ?_); refine goesL_ (some 23) rfl rfl Try.func11 (by kernel_rfl) rfl #[.agg #[.slice A0_0 l0_0.length c0_0, .slice A0_1 l0_1.length c0_1]] rfl (by (try simp only [List.map_toArray, List.map_cons, List.map_nil]); first | done | rfl | (simp only [List.length_drop, List.length_take]; rfl)) ?_; (with_reducible refine (lw_few.calls _ _ l0_0 _ _ l0_1 false _ ?side1 ?side2 ?side3 ?side4 A7.out).mono ?_); (case side1 => repeat (first | exact (Kd.C_below HR0_0.out HB.out) | (with_reducible refine Kd.C_alloc ?_ _) | (with_reducible refine Kd.C_drewN ?_ _) | (with_reducible refine Kd.C_drew ?_))); (case side2 => exact HC0_0.out); (case side3 => repeat (first | exact (Kd.C_below HR0_1.out HB.out) | (with_reducible refine Kd.C_alloc ?_ _) | (with_reducible refine Kd.C_drewN ?_ _) | (with_reducible refine Kd.C_drew ?_))); (case side4 => exact HC0_1.out); rintro e w85 ⟨rfl, hb⟩; refine ⟨_, rfl, ?_⟩; have n0_ := Aside0.mk (blk_below (g := gb327) (o := .cells #[.slice A0_0 l0_0.length c0_0, .slice A0_1 l0_1.length c0_1] 25 (0, 0)) (by (with_reducible repeat (first | refine blk_drewN ?_ _ | refine blk_drew ?_ | refine blk_alloc ?_ _)); exact BK327.out) hb); have n1_ := Aside0.mk (below_step (by repeat (first | (with_reducible first | exact HB.out | apply below_alloc | apply pw_below_drewN | apply below_drew1 | refine below_set ?_ GE327.out) | exact HB.out)) hb); clear BK327; clear HB; have BK327 := n0_; have HB := n1_; clear n0_ n1_; (try clear hb); (try clear hb2); (try clear hk); (try clear hi)))
   go_ret
   exact ⟨by first | rfl | (simp [errW_none, errW_some] <;> rfl) | (simp [*, errW_none, errW_some] <;> rfl), by repeat (first | (with_reducible first | exact HB.out | apply below_alloc | apply pw_below_drewN | apply below_drew1 | refine below_set ?_ GE327.out) | exact HB.out)⟩
 ·replace c6 := Bool.eq_false_iff.mpr c6
  subst c6
  have H1 : (some false) = some r := by rw [if_neg (show ¬ (false = true) by decide)] at H; exact H
  clear H
  have H := H1
  clear H1
  obtain rfl := Option.some.inj H
  go_enter Try.func9, Try.ntmps9
  go_wp2_with (first | ((with_reducible refine gate_dst (N := 4) rfl ?_); refine box_event ?hg (N := 4) ?hd (cs := #[.slice A0_0 l0_0.length c0_0, .slice A0_1 l0_1.length c0_1]) (t := 25) ?hr ?_; (case hd => rfl); (case hg => rfl); (case hr => first | (go_simp; done) | (go_simp; rfl)); intro gb327 hg w86 hbox hb; have n0_ := Aside0.mk (below_step (by repeat (first | (with_reducible first | exact HB.out | apply below_alloc | apply pw_below_drewN | apply below_drew1) | exact HB.out)) hb); have n1_ := Aside0.mk (hbox); have n2_ := Aside0.mk ((by rw [hg]; exact (below_size (by repeat (first | (with_reducible first | exact HB.out | apply below_alloc | apply pw_below_drewN | apply below_drew1) | exact HB.out))) : w.heap.size ≤ gb327)); have n3_ := Aside0.mk ((by rw [hg]; exact (below_size (by repeat (first | (with_reducible first | exact HB.out | apply below_alloc | apply pw_below_drewN | apply below_drew1) | exact HB.out))) : w.heap.size ≤ gb327)); clear HB; have HB := n0_; have BK327 := n1_; have GW327 := n2_; have GE327 := n3_; clear n0_ n1_ n2_ n3_; clear hb hbox hg) | ((with_reducible refine gate_callee (f := 10) rfl ?_); refine goesL_ (some 20) rfl rfl Try.func10 (by kernel_rfl) rfl #[] rfl (by (try simp only [List.map_toArray, List.map_cons, List.map_nil]); first | done | rfl | (simp only [List.length_drop, List.length_take]; rfl)) ?_; (with_reducible refine (lw_lives.calls k  false _ A5.out).mono ?_); rintro e w87 ⟨rfl, hb⟩; refine ⟨_, rfl, ?_⟩; have n0_ := Aside0.mk (blk_below (g := gb327) (o := .cells #[.slice A0_0 l0_0.length c0_0, .slice A0_1 l0_1.length c0_1] 25 (0, 0)) (by (with_reducible repeat (first | refine blk_drewN ?_ _ | refine blk_drew ?_ | refine blk_alloc ?_ _)); exact BK327.out) hb); have n1_ := Aside0.mk (below_step (by repeat (first | (with_reducible first | exact HB.out | apply below_alloc | apply pw_below_drewN | apply below_drew1 | refine below_set ?_ GE327.out) | exact HB.out)) hb); clear BK327; clear HB; have BK327 := n0_; have HB := n1_; clear n0_ n1_; (try clear hb); (try clear hb2); (try clear hk); (try clear hi)))
  go_ret
  exact ⟨by first | rfl | (simp [errW_none, errW_some] <;> rfl) | (simp [*, errW_none, errW_some] <;> rfl), by repeat (first | (with_reducible first | exact HB.out | apply below_alloc | apply pw_below_drewN | apply below_drew1 | refine below_set ?_ GE327.out) | exact HB.out)⟩

end Go.Proofs.Yteafkdadpdofjaa.Q
