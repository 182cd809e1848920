/- For each Go function that the seat's laws reach: a Lean function with the same answers, and the proof that the Go code comes to them. Made by a program of this session over the translation; no condition beside those that each theorem bears. -/
import Derived.Test.YteafkdadpdofjaaQx0
import Derived.Test.YteafkdadpdofjaaQx2
import Derived.Test.YteafkdadpdofjaaQx17
import Derived.Test.YteafkdadpdofjaaQx18
import Derived.Test.YteafkdadpdofjaaQx25
namespace Go.Proofs.Yteafkdadpdofjaa.Q
open Go.RowKit Go.Proofs.YteafkdadpdofjaaW.PrintWords Go.Proofs.YteafkdadpdofjaaW.PrintLast Go.Proofs.YteafkdadpdofjaaW.PrintMore
attribute [local go_sem] max2_int min2_int max_two min_two max_three min_three max_four min_four   -- for this text's walks alone
set_option linter.unusedVariables false
set_option linter.unusedSimpArgs false

attribute [local go_sem high] eqA48
/-! ### signalbenchlaw09_lives: function 10 -/
def signalbenchlaw09_lives.j0 : Nat → Bool → List ByteArray → List (S48) → Option (Bool)
 | 0, _, _, _ => none
 | k + 1, x45, x200000, x200001 => if x45 = true then (some false) else ((capture_At.f k x200000 x200001 2).bind fun bt202 => (if bt202.1 = 3 then (if bt202.2 = true then ((capture_Long.f k x200000 x200001).bind fun t204 => (some (t204 == 5))) else (some false)) else (some false)))
def signalbenchlaw09_lives.f (k : Nat)  : Option (Bool) := (capture_Build.f k (([(⟨#[97]⟩ : ByteArray), (⟨#[98]⟩ : ByteArray)] : List ByteArray)) (([(([(⟨1, 3⟩ : S48), (⟨0, 2⟩ : S48)] : List (S48))), (([(⟨0, 1⟩ : S48), (⟨1, 4⟩ : S48)] : List (S48)))] : List (List (S48))))).bind fun bt192 => (if bt192.2.2 = 0 then (if (bt192.1.length : Int) = 2 then (if (bt192.2.1.length : Int) = 3 then (if 1 < (bt192.1.length : Int) then (if (rdOf ByteArray.empty bt192.1 1).toList = ([98] : List UInt8) then (if 1 < (bt192.2.1.length : Int) then (signalbenchlaw09_lives.j0 k (!(((rd_T48 bt192.2.1 1).f0) == 3) || (!(((rd_T48 bt192.2.1 1).f1) == 2))) bt192.1 bt192.2.1) else (none)) else (signalbenchlaw09_lives.j0 k true bt192.1 bt192.2.1)) else (none)) else (signalbenchlaw09_lives.j0 k true bt192.1 bt192.2.1)) else (signalbenchlaw09_lives.j0 k true bt192.1 bt192.2.1)) else (signalbenchlaw09_lives.j0 k true bt192.1 bt192.2.1))
theorem signalbenchlaw09_lives.mono_l : ∀ k, (∀ y0 y1 y2, LeO (signalbenchlaw09_lives.j0 k y0 y1 y2) (signalbenchlaw09_lives.j0 (k + 1) y0 y1 y2))
 | 0 => fun _ _ _ r h => by simp [signalbenchlaw09_lives.j0] at h
 | k + 1 => by
  have ih0 := signalbenchlaw09_lives.mono_l k
  ·intro y0 y1 y2
   unfold signalbenchlaw09_lives.j0
   repeat' first
   | (with_reducible exact ih0 _ _ _)
   | (with_reducible exact capture_At.mono _ _ _ _)
   | (with_reducible exact capture_Build.mono _ _ _)
   | (with_reducible exact capture_Long.mono _ _ _)
   | (with_reducible exact LeO.refl _)
   | (with_reducible exact LeO.none _)
   | (with_reducible refine LeO.ite ?_ ?_)
   | (with_reducible refine LeO.bind ?_ (fun _ => ?_))
   | exact ih0 _ _ _
   | exact capture_At.mono _ _ _ _
   | exact capture_Build.mono _ _ _
   | exact capture_Long.mono _ _ _
   | exact LeO.none _
   | refine LeO.ite ?_ ?_
   | refine LeO.bind ?_ (fun _ => ?_)
theorem signalbenchlaw09_lives.mono : ∀ k, LeO (signalbenchlaw09_lives.f k ) (signalbenchlaw09_lives.f (k + 1) ) := by
 intro  k
 have ih0 := signalbenchlaw09_lives.mono_l k
 unfold signalbenchlaw09_lives.f
 repeat' first
   | (with_reducible exact ih0 _ _ _)
   | (with_reducible exact capture_At.mono _ _ _ _)
   | (with_reducible exact capture_Build.mono _ _ _)
   | (with_reducible exact capture_Long.mono _ _ _)
   | (with_reducible exact LeO.refl _)
   | (with_reducible exact LeO.none _)
   | (with_reducible refine LeO.ite ?_ ?_)
   | (with_reducible refine LeO.bind ?_ (fun _ => ?_))
   | exact ih0 _ _ _
   | exact capture_At.mono _ _ _ _
   | exact capture_Build.mono _ _ _
   | exact capture_Long.mono _ _ _
   | exact LeO.none _
   | refine LeO.ite ?_ ?_
   | refine LeO.bind ?_ (fun _ => ?_)
set_option maxHeartbeats 8000000 in
set_option maxRecDepth 100000 in
theorem signalbenchlaw09_lives.calls (k : Nat)  (r : Bool) (w : World) (h : signalbenchlaw09_lives.f k  = some r) :
  Calls Try.prog 10 #[] w fun e w' => e = .returned (.bool r) ∧ Below w.heap.size w w' := by
 have hu48 := Try.underlying48
 have hu25 := Try.underlying25
 have HB := Aside0.mk (Below.refl w.heap.size w)
 have H : ((capture_Build.f k (([(⟨#[97]⟩ : ByteArray), (⟨#[98]⟩ : ByteArray)] : List ByteArray)) (([(([(⟨1, 3⟩ : S48), (⟨0, 2⟩ : S48)] : List (S48))), (([(⟨0, 1⟩ : S48), (⟨1, 4⟩ : S48)] : List (S48)))] : List (List (S48))))).bind fun bt192 => (if bt192.2.2 = 0 then (if (bt192.1.length : Int) = 2 then (if (bt192.2.1.length : Int) = 3 then (if 1 < (bt192.1.length : Int) then (if (rdOf ByteArray.empty bt192.1 1).toList = ([98] : List UInt8) then (if 1 < (bt192.2.1.length : Int) then (signalbenchlaw09_lives.j0 k (!(((rd_T48 bt192.2.1 1).f0) == 3) || (!(((rd_T48 bt192.2.1 1).f1) == 2))) bt192.1 bt192.2.1) else (none)) else (signalbenchlaw09_lives.j0 k true bt192.1 bt192.2.1)) else (none)) else (signalbenchlaw09_lives.j0 k true bt192.1 bt192.2.1)) else (signalbenchlaw09_lives.j0 k true bt192.1 bt192.2.1)) else (signalbenchlaw09_lives.j0 k true bt192.1 bt192.2.1))) = some r := h
 clear h
 obtain ⟨y180, hy180⟩ : ∃ y_ : List ByteArray, y_ = (([(⟨#[97]⟩ : ByteArray), (⟨#[98]⟩ : ByteArray)] : List ByteArray)) := ⟨_, rfl⟩
 replace H : ((capture_Build.f k y180 (([(([(⟨1, 3⟩ : S48), (⟨0, 2⟩ : S48)] : List (S48))), (([(⟨0, 1⟩ : S48), (⟨1, 4⟩ : S48)] : List (S48)))] : List (List (S48))))).bind fun bt192 => (if bt192.2.2 = 0 then (if (bt192.1.length : Int) = 2 then (if (bt192.2.1.length : Int) = 3 then (if 1 < (bt192.1.length : Int) then (if (rdOf ByteArray.empty bt192.1 1).toList = ([98] : List UInt8) then (if 1 < (bt192.2.1.length : Int) then (signalbenchlaw09_lives.j0 k (!(((rd_T48 bt192.2.1 1).f0) == 3) || (!(((rd_T48 bt192.2.1 1).f1) == 2))) bt192.1 bt192.2.1) else (none)) else (signalbenchlaw09_lives.j0 k true bt192.1 bt192.2.1)) else (none)) else (signalbenchlaw09_lives.j0 k true bt192.1 bt192.2.1)) else (signalbenchlaw09_lives.j0 k true bt192.1 bt192.2.1)) else (signalbenchlaw09_lives.j0 k true bt192.1 bt192.2.1))) = some r := by first | (rw [hy180]; with_reducible exact H) | (have H2_ := (Option.bind_some _ _).symm.trans H; rw [hy180]; with_reducible exact H2_) | (have H2_ := (Option.bind_some _ _).symm.trans H; with_reducible exact H2_) | with_reducible exact H | (rw [hy180]; exact H) | exact H
 have Ny180 := Aside0.mk hy180
 clear hy180
 obtain ⟨y183, hy183⟩ : ∃ y_ : List (S48), y_ = (([(⟨1, 3⟩ : S48), (⟨0, 2⟩ : S48)] : List (S48))) := ⟨_, rfl⟩
 replace H : ((capture_Build.f k y180 (([y183, (([(⟨0, 1⟩ : S48), (⟨1, 4⟩ : S48)] : List (S48)))] : List (List (S48))))).bind fun bt192 => (if bt192.2.2 = 0 then (if (bt192.1.length : Int) = 2 then (if (bt192.2.1.length : Int) = 3 then (if 1 < (bt192.1.length : Int) then (if (rdOf ByteArray.empty bt192.1 1).toList = ([98] : List UInt8) then (if 1 < (bt192.2.1.length : Int) then (signalbenchlaw09_lives.j0 k (!(((rd_T48 bt192.2.1 1).f0) == 3) || (!(((rd_T48 bt192.2.1 1).f1) == 2))) bt192.1 bt192.2.1) else (none)) else (signalbenchlaw09_lives.j0 k true bt192.1 bt192.2.1)) else (none)) else (signalbenchlaw09_lives.j0 k true bt192.1 bt192.2.1)) else (signalbenchlaw09_lives.j0 k true bt192.1 bt192.2.1)) else (signalbenchlaw09_lives.j0 k true bt192.1 bt192.2.1))) = some r := by first | (rw [hy183]; with_reducible exact H) | (have H2_ := (Option.bind_some _ _).symm.trans H; rw [hy183]; with_reducible exact H2_) | (have H2_ := (Option.bind_some _ _).symm.trans H; with_reducible exact H2_) | with_reducible exact H | (rw [hy183]; exact H) | exact H
 have Ny183 := Aside0.mk hy183
 clear hy183
 obtain ⟨y186, hy186⟩ : ∃ y_ : List (S48), y_ = (([(⟨0, 1⟩ : S48), (⟨1, 4⟩ : S48)] : List (S48))) := ⟨_, rfl⟩
 replace H : ((capture_Build.f k y180 (([y183, y186] : List (List (S48))))).bind fun bt192 => (if bt192.2.2 = 0 then (if (bt192.1.length : Int) = 2 then (if (bt192.2.1.length : Int) = 3 then (if 1 < (bt192.1.length : Int) then (if (rdOf ByteArray.empty bt192.1 1).toList = ([98] : List UInt8) then (if 1 < (bt192.2.1.length : Int) then (signalbenchlaw09_lives.j0 k (!(((rd_T48 bt192.2.1 1).f0) == 3) || (!(((rd_T48 bt192.2.1 1).f1) == 2))) bt192.1 bt192.2.1) else (none)) else (signalbenchlaw09_lives.j0 k true bt192.1 bt192.2.1)) else (none)) else (signalbenchlaw09_lives.j0 k true bt192.1 bt192.2.1)) else (signalbenchlaw09_lives.j0 k true bt192.1 bt192.2.1)) else (signalbenchlaw09_lives.j0 k true bt192.1 bt192.2.1))) = some r := by first | (rw [hy186]; with_reducible exact H) | (have H2_ := (Option.bind_some _ _).symm.trans H; rw [hy186]; with_reducible exact H2_) | (have H2_ := (Option.bind_some _ _).symm.trans H; with_reducible exact H2_) | with_reducible exact H | (rw [hy186]; exact H) | exact H
 have Ny186 := Aside0.mk hy186
 clear hy186
 obtain ⟨y189, hy189⟩ : ∃ y_ : List (List (S48)), y_ = (([y183, y186] : List (List (S48)))) := ⟨_, rfl⟩
 replace H : ((capture_Build.f k y180 y189).bind fun bt192 => (if bt192.2.2 = 0 then (if (bt192.1.length : Int) = 2 then (if (bt192.2.1.length : Int) = 3 then (if 1 < (bt192.1.length : Int) then (if (rdOf ByteArray.empty bt192.1 1).toList = ([98] : List UInt8) then (if 1 < (bt192.2.1.length : Int) then (signalbenchlaw09_lives.j0 k (!(((rd_T48 bt192.2.1 1).f0) == 3) || (!(((rd_T48 bt192.2.1 1).f1) == 2))) bt192.1 bt192.2.1) else (none)) else (signalbenchlaw09_lives.j0 k true bt192.1 bt192.2.1)) else (none)) else (signalbenchlaw09_lives.j0 k true bt192.1 bt192.2.1)) else (signalbenchlaw09_lives.j0 k true bt192.1 bt192.2.1)) else (signalbenchlaw09_lives.j0 k true bt192.1 bt192.2.1))) = some r := by first | (rw [hy189]; with_reducible exact H) | (have H2_ := (Option.bind_some _ _).symm.trans H; rw [hy189]; with_reducible exact H2_) | (have H2_ := (Option.bind_some _ _).symm.trans H; with_reducible exact H2_) | with_reducible exact H | (rw [hy189]; exact H) | exact H
 have Ny189 := Aside0.mk hy189
 clear hy189
 replace H := Option.bind_eq_some_iff.mp H
 obtain ⟨⟨t192, t195, t198⟩, A10, H⟩ := H
 replace H : (if t198 = 0 then (if (t192.length : Int) = 2 then (if (t195.length : Int) = 3 then (if 1 < (t192.length : Int) then (if (rdOf ByteArray.empty t192 1).toList = ([98] : List UInt8) then (if 1 < (t195.length : Int) then (signalbenchlaw09_lives.j0 k (!(((rd_T48 t195 1).f0) == 3) || (!(((rd_T48 t195 1).f1) == 2))) t192 t195) else (none)) else (signalbenchlaw09_lives.j0 k true t192 t195)) else (none)) else (signalbenchlaw09_lives.j0 k true t192 t195)) else (signalbenchlaw09_lives.j0 k true t192 t195)) else (signalbenchlaw09_lives.j0 k true t192 t195)) = some r := H
 have A1 := Aside0.mk A10
 clear A10
 have HC2 := Aside0.mk H
 clear H
 go_enter Try.func10, Try.ntmps10
 go_upto_region 2 with (first | ((with_reducible refine gate_dst (N := 6) rfl ?_); (try (refine gate_guard (by rfl) ?_; dsimp only)); refine Kd.R_lit Kd.string _ 9 ?hg (N := 6) ?hd (xs := ([(⟨#[97]⟩ : ByteArray), (⟨#[98]⟩ : ByteArray)] : List ByteArray)) (inner := [.string (⟨#[97]⟩ : ByteArray), .string (⟨#[98]⟩ : ByteArray)]) (ok := fun _ => True) (okp := fun _ => True) ?hr ?hp (fun _ hk => hk) trivial (Below.refl _ _) (Nat.le_refl _) (by simp) ?_; (case hd => rfl); (case hg => rfl); (case hr => first | (go_simp; done) | (go_simp; rfl)); (case hp => exact (Reps.one (show Kd.M Kd.string _ _ _ (⟨#[97]⟩ : ByteArray) [.string (⟨#[97]⟩ : ByteArray)] from rfl) (Reps.one (show Kd.M Kd.string _ _ _ (⟨#[98]⟩ : ByteArray) [.string (⟨#[98]⟩ : ByteArray)] from rfl) (Reps.none _ _)))); intro v181 w3 ho4 hb hg_ hnew_; clear hg_ hnew_; (first | rw [← Ny180.out] at ho4 | (simp only [Int.reduceToNat] at ho4; rw [← Ny180.out] at ho4)); have n0_ := Aside0.mk (Kd.R_lower ho4 (below_size (by repeat (first | (with_reducible first | exact HB.out | apply below_alloc | apply pw_below_drewN | apply below_drew1) | exact HB.out)))); have n1_ := Aside0.mk (below_step (by repeat (first | (with_reducible first | exact HB.out | apply below_alloc | apply pw_below_drewN | apply below_drew1) | exact HB.out)) hb); clear HB; have HO182 := n0_; have HB := n1_; clear n0_ n1_; clear hb ho4) | ((with_reducible refine gate_dst (N := 9) rfl ?_); (try (refine gate_guard (by rfl) ?_; dsimp only)); refine Kd.R_lit k48 _ 48 ?hg (N := 9) ?hd (xs := ([(⟨1, 3⟩ : S48), (⟨0, 2⟩ : S48)] : List (S48))) (inner := [.int .i64 1, .int .i64 3, .int .i64 0, .int .i64 2]) (ok := fun _ => True) (okp := fun _ => True) ?hr ?hp (fun _ hk => hk) trivial (Below.refl _ _) (Nat.le_refl _) (by simp) ?_; (case hd => rfl); (case hg => rfl); (case hr => first | (go_simp; done) | (go_simp; rfl)); (case hp => exact (Reps.c2 (show Kd.M k48 _ _ _ (⟨1, 3⟩ : S48) [.int .i64 1, .int .i64 3] from (k48_mkM _ _ _ (⟨1, 3⟩ : S48) )) (Reps.c2 (show Kd.M k48 _ _ _ (⟨0, 2⟩ : S48) [.int .i64 0, .int .i64 2] from (k48_mkM _ _ _ (⟨0, 2⟩ : S48) )) (Reps.none _ _)))); intro v184 w5 ho6 hb hg_ hnew_; clear hg_ hnew_; (first | rw [← Ny183.out] at ho6 | (simp only [Int.reduceToNat] at ho6; rw [← Ny183.out] at ho6)); have n0_ := Aside0.mk (Kd.R_below (by (with_reducible repeat (first | apply Kd.R_alloc | apply Kd.R_drewN | apply Kd.R_drew)); exact HO182.out) hb); have n1_ := Aside0.mk (Kd.R_lower ho6 (below_size (by repeat (first | (with_reducible first | exact HB.out | apply below_alloc | apply pw_below_drewN | apply below_drew1) | exact HB.out)))); have n2_ := Aside0.mk (below_step (by repeat (first | (with_reducible first | exact HB.out | apply below_alloc | apply pw_below_drewN | apply below_drew1) | exact HB.out)) hb); clear HO182; clear HB; have HO182 := n0_; have HO185 := n1_; have HB := n2_; clear n0_ n1_ n2_; clear hb ho6) | ((with_reducible refine gate_dst (N := 12) rfl ?_); (try (refine gate_guard (by rfl) ?_; dsimp only)); refine Kd.R_lit k48 _ 48 ?hg (N := 12) ?hd (xs := ([(⟨0, 1⟩ : S48), (⟨1, 4⟩ : S48)] : List (S48))) (inner := [.int .i64 0, .int .i64 1, .int .i64 1, .int .i64 4]) (ok := fun _ => True) (okp := fun _ => True) ?hr ?hp (fun _ hk => hk) trivial (Below.refl _ _) (Nat.le_refl _) (by simp) ?_; (case hd => rfl); (case hg => rfl); (case hr => first | (go_simp; done) | (go_simp; rfl)); (case hp => exact (Reps.c2 (show Kd.M k48 _ _ _ (⟨0, 1⟩ : S48) [.int .i64 0, .int .i64 1] from (k48_mkM _ _ _ (⟨0, 1⟩ : S48) )) (Reps.c2 (show Kd.M k48 _ _ _ (⟨1, 4⟩ : S48) [.int .i64 1, .int .i64 4] from (k48_mkM _ _ _ (⟨1, 4⟩ : S48) )) (Reps.none _ _)))); intro v187 w7 ho8 hb hg_ hnew_; clear hg_ hnew_; (first | rw [← Ny186.out] at ho8 | (simp only [Int.reduceToNat] at ho8; rw [← Ny186.out] at ho8)); have n0_ := Aside0.mk (Kd.R_below (by (with_reducible repeat (first | apply Kd.R_alloc | apply Kd.R_drewN | apply Kd.R_drew)); exact HO182.out) hb); have n1_ := Aside0.mk (Kd.R_elder' (by (with_reducible repeat (first | apply Kd.R_alloc | apply Kd.R_drewN | apply Kd.R_drew)); exact HO185.out) (Kd.R_base ho8) hb); have n2_ := Aside0.mk (Kd.R_lower (Kd.R_new' ho8 (Kd.R_lt (by (with_reducible repeat (first | apply Kd.R_alloc | apply Kd.R_drewN | apply Kd.R_drew)); exact HO185.out))) (below_size (by repeat (first | (with_reducible first | exact HB.out | apply below_alloc | apply pw_below_drewN | apply below_drew1) | exact HB.out)))); have n3_ := Aside0.mk (below_step (by repeat (first | (with_reducible first | exact HB.out | apply below_alloc | apply pw_below_drewN | apply below_drew1) | exact HB.out)) hb); clear HO182; clear HO185; clear HB; have HO182 := n0_; have HO185 := n1_; have HO188 := n2_; have HB := n3_; clear n0_ n1_ n2_ n3_; clear hb ho8; obtain ⟨Ao9, co9, eo9⟩ := Kd.R_slice HO185.out; subst eo9; obtain ⟨Ao10, co10, eo10⟩ := Kd.R_slice HO188.out; subst eo10) | ((with_reducible refine gate_dst (N := 13) rfl ?_); (try (refine gate_guard (by rfl) ?_; dsimp only)); refine Kd.N_lit (Kd.slice 48 k48) _ 23 ?hg (N' := 13) ?hd (xs := ([y183, y186] : List (List (S48)))) (inner := [.slice Ao9 y183.length co9, .slice Ao10 y186.length co10]) (ok := (fun k_ => some k_ ≠ (v181 : Value).ownBlock)) (okp := (fun k_ => some k_ ≠ (v181 : Value).ownBlock)) ?hr ?hp (fun _ hk => hk) ((show ∀ k_, w7.heap.size ≤ k_ → (fun k_ => some k_ ≠ (v181 : Value).ownBlock) k_ from fun k_ hk => Kd.fresh' (Kd.R_lt (by (with_reducible repeat (first | apply Kd.R_alloc | apply Kd.R_drewN | apply Kd.R_drew)); exact HO182.out)) k_ hk) _ (Nat.le_refl _)) (Below.refl _ _) (Nat.le_refl _) (by simp) ?_; (case hd => rfl); (case hg => rfl); (case hr => first | (go_simp; done) | (go_simp; rfl)); (case hp => exact (Reps.one (show Kd.FK (Kd.slice 48 k48) _ _ y183 [.slice Ao9 y183.length co9] from (Kd.FK_slice_mk (Kd.R_reads' (Kd.R_mono (ok' := (fun k_ => some k_ ≠ (v181 : Value).ownBlock)) (Kd.R_apart' (HO185.out) (Kd.R_typed HO182.out) (by decide)) (fun k_ hk => hk.2))).2.1 (Kd.R_F (Kd.R_mono (ok' := (fun k_ => some k_ ≠ (v181 : Value).ownBlock)) (Kd.R_apart' (HO185.out) (Kd.R_typed HO182.out) (by decide)) (fun k_ hk => hk.2))))) (Reps.one (show Kd.FK (Kd.slice 48 k48) _ _ y186 [.slice Ao10 y186.length co10] from (Kd.FK_slice_mk (Kd.R_reads' (Kd.R_mono (ok' := (fun k_ => some k_ ≠ (v181 : Value).ownBlock)) (Kd.R_apart' (HO188.out) (Kd.R_typed HO182.out) (by decide)) (fun k_ hk => hk.2))).2.1 (Kd.R_F (Kd.R_mono (ok' := (fun k_ => some k_ ≠ (v181 : Value).ownBlock)) (Kd.R_apart' (HO188.out) (Kd.R_typed HO182.out) (by decide)) (fun k_ hk => hk.2))))) (Reps.none _ _)))); intro v190 w11 ho12 hb hg_ hnew_; clear hg_ hnew_; (first | rw [← Ny189.out] at ho12 | (simp only [Int.reduceToNat] at ho12; rw [← Ny189.out] at ho12)); have n0_ := Aside0.mk (Kd.R_below (by (with_reducible repeat (first | apply Kd.R_alloc | apply Kd.R_drewN | apply Kd.R_drew)); exact HO182.out) hb); have n1_ := Aside0.mk (Kd.N_lower ho12 (below_size (by repeat (first | (with_reducible first | exact HB.out | apply below_alloc | apply pw_below_drewN | apply below_drew1) | exact HB.out)))); have n2_ := Aside0.mk (below_step (by repeat (first | (with_reducible first | exact HB.out | apply below_alloc | apply pw_below_drewN | apply below_drew1) | exact HB.out)) hb); clear HO182; clear HB; clear HO185; clear HO188; have HO182 := n0_; have HO191 := n1_; have HB := n2_; clear n0_ n1_ n2_; clear hb ho12; obtain ⟨Ao13, co13, eo13⟩ := Kd.R_slice HO182.out; subst eo13; obtain ⟨Ao14, co14, eo14⟩ := Kd.N_slice HO191.out; subst eo14) | ((with_reducible refine gate_callee (f := 18) rfl ?_); refine goesL_ (some 14) rfl rfl Try.func18 (by kernel_rfl) rfl #[.slice Ao13 y180.length co13, .slice Ao14 y189.length co14] rfl (by (try simp only [List.map_toArray, List.map_cons, List.map_nil]); first | done | rfl | (simp only [List.length_drop, List.length_take]; rfl)) ?_; (with_reducible refine (capture_Build.calls k _ _ y180 _ _ y189 t192 t195 t198 _ ?side1 ?side2 ?side3 ?side4 A1.out).mono ?_); (case side1 => repeat (first | exact (Kd.R_reads' HO182.out).2.2 | (with_reducible refine Kd.C_alloc ?_ _) | (with_reducible refine Kd.C_drewN ?_ _) | (with_reducible refine Kd.C_drew ?_))); (case side2 => exact (Kd.R_reads' HO182.out).2.1); (case side3 => repeat (first | exact (Kd.N_reads' HO191.out).2.2 | (with_reducible refine Kd.C_alloc ?_ _) | (with_reducible refine Kd.C_drewN ?_ _) | (with_reducible refine Kd.C_drew ?_))); (case side4 => exact (Kd.N_reads' HO191.out).2.1); rintro e w15 ⟨v193, v196, rfl, ho0, ho1, hb⟩; refine ⟨_, rfl, ?_⟩; have n0_ := Aside0.mk (Kd.R_elder' (by (with_reducible repeat (first | apply Kd.R_alloc | apply Kd.R_drewN | apply Kd.R_drew)); exact HO182.out) (Kd.R_base ho0) hb); have n1_ := Aside0.mk (Kd.N_mono (Kd.N_told (Kd.N_told (Kd.N_old (by (with_reducible repeat (first | apply Kd.N_alloc | apply Kd.N_drewN | apply Kd.N_drew)); exact HO191.out) hb) (Kd.R_base ho0)) (Kd.R_base ho1)) (fun _ h_ => h_.1)); have n2_ := Aside0.mk (Kd.R_lower (Kd.R_new' ho0 (Kd.R_lt (by (with_reducible repeat (first | apply Kd.R_alloc | apply Kd.R_drewN | apply Kd.R_drew)); exact HO182.out))) (below_size (by repeat (first | (with_reducible first | exact HB.out | apply below_alloc | apply pw_below_drewN | apply below_drew1) | exact HB.out)))); have n3_ := Aside0.mk (Kd.R_lower ho1 (below_size (by repeat (first | (with_reducible first | exact HB.out | apply below_alloc | apply pw_below_drewN | apply below_drew1) | exact HB.out)))); have n4_ := Aside0.mk (below_step (by repeat (first | (with_reducible first | exact HB.out | apply below_alloc | apply pw_below_drewN | apply below_drew1) | exact HB.out)) hb); clear HO182; clear HO191; clear HB; have HO182 := n0_; have HO191 := n1_; have HO194 := n2_; have HO197 := n3_; have HB := n4_; clear n0_ n1_ n2_ n3_ n4_; (try clear hb); (try clear hb2); (try clear hk); (try clear hi); (try clear ho0); (try clear ho1)) | ((with_reducible refine gate_dst (N := 1) rfl ?_); (try (refine gate_guard (by rfl) ?_; dsimp only)); refine box_event ?hg (N := 1) ?hd (cs := #[.slice none 0 0, .slice none 0 0]) (t := 25) ?hr ?_; (case hd => rfl); (case hg => rfl); (case hr => first | (go_simp; done) | (go_simp; rfl)); intro gb199 hg w16 hbox hb; have n0_ := Aside0.mk (Kd.R_below (by (with_reducible repeat (first | apply Kd.R_alloc | apply Kd.R_drewN | apply Kd.R_drew)); exact HO182.out) hb); have n1_ := Aside0.mk (Kd.N_below (Kd.N_elderB (by (with_reducible repeat (first | apply Kd.N_alloc | apply Kd.N_drewN | apply Kd.N_drew)); exact HO191.out) gb199 (Nat.le_of_eq hg.symm)) hb); have n2_ := Aside0.mk (Kd.R_below (by (with_reducible repeat (first | apply Kd.R_alloc | apply Kd.R_drewN | apply Kd.R_drew)); exact HO194.out) hb); have n3_ := Aside0.mk (Kd.R_below (by (with_reducible repeat (first | apply Kd.R_alloc | apply Kd.R_drewN | apply Kd.R_drew)); exact HO197.out) hb); have n4_ := Aside0.mk (below_step (by repeat (first | (with_reducible first | exact HB.out | apply below_alloc | apply pw_below_drewN | apply below_drew1) | exact HB.out)) hb); have n5_ := Aside0.mk (hbox); have n6_ := Aside0.mk ((by rw [hg]; exact (below_size (by repeat (first | (with_reducible first | exact HB.out | apply below_alloc | apply pw_below_drewN | apply below_drew1) | exact HB.out))) : w.heap.size ≤ gb199)); have n7_ := Aside0.mk ((by rw [hg]; exact (below_size (by repeat (first | (with_reducible first | exact HB.out | apply below_alloc | apply pw_below_drewN | apply below_drew1) | exact HB.out))) : w.heap.size ≤ gb199)); clear HO182; clear HO191; clear HO194; clear HO197; clear HB; have HO182 := n0_; have HO191 := n1_; have HO194 := n2_; have HO197 := n3_; have HB := n4_; have BK199 := n5_; have GW199 := n6_; have GE199 := n7_; clear n0_ n1_ n2_ n3_ n4_ n5_ n6_ n7_; clear hb hbox hg; obtain ⟨Ao17, co17, eo17⟩ := Kd.R_slice HO194.out; subst eo17; have hcz18_0 : w16.cell? ⟨gb199, 0, none⟩ = some (.slice none 0 0) := (blk_cell BK199.out 0).trans rfl; have hcz18_1 : w16.cell? ⟨gb199, 1, none⟩ = some (.slice none 0 0) := (blk_cell BK199.out 1).trans rfl; have hfz18_0 := blk_frozen BK199.out 0; have hfz18_1 := blk_frozen BK199.out 1; obtain ⟨Ao19, co19, eo19⟩ := Kd.R_slice HO197.out; subst eo19))
 (try simp only [Act.put, List.setIfInBounds_toArray, List.set_cons_zero, List.set_cons_succ])
 go_cut [45] (fun v45 wc => ∃ (kq : Nat) (x45_1 : Bool), v45 = .bool x45_1 ∧ Aside0 (signalbenchlaw09_lives.j0 kq x45_1 t192 t195 = some r) ∧ Aside0 (kq ≤ k) ∧ Aside0 (Kd.R Kd.string 9 wc w.heap.size (fun _ => True) (.slice Ao17 t192.length co17) t192) ∧ Aside0 (Kd.R k48 48 wc w.heap.size (fun _ => True) (.slice Ao19 t195.length co19) t195) ∧ Aside0 (wc.heap[gb199]? = some (.cells #[(.slice Ao17 t192.length co17), (.slice Ao19 t195.length co19)] 25 (0, 0))) ∧ Aside0 (Below w.heap.size w wc))
 case first =>
  have H := HC2.out
  clear HC2
  by_cases c20 : t198 = 0
  ·rw [if_pos c20] at H
   have c20b0 : (t198 == 0) = true := beq_iff_eq.mpr c20
   have c20b1 : (t198 != 0) = false := bne_eq_false_iff_eq.mpr c20
   clear c20
   (first | rw [c20b0] | (simp only [i64_w, i32_w]; rw [c20b0]) | skip)
   by_cases c21 : (t192.length : Int) = 2
   ·rw [if_pos c21] at H
    have c21b0 : ((t192.length : Int) == 2) = true := beq_iff_eq.mpr c21
    have c21b1 : ((t192.length : Int) != 2) = false := bne_eq_false_iff_eq.mpr c21
    clear c21
    by_cases c22 : (t195.length : Int) = 3
    ·rw [if_pos c22] at H
     have c22b0 : ((t195.length : Int) == 3) = true := beq_iff_eq.mpr c22
     have c22b1 : ((t195.length : Int) != 3) = false := bne_eq_false_iff_eq.mpr c22
     clear c22
     by_cases c23 : 1 < (t192.length : Int)
     ·rw [if_pos c23] at H
      have c23b0 : decide (1 < (t192.length : Int)) = true := decide_eq_true c23
      have c23b1 : decide (1 < t192.length) = true := decide_eq_true (by omega)
      clear c23
      by_cases c24 : (rdOf ByteArray.empty t192 1).toList = ([98] : List UInt8)
      ·rw [if_pos c24] at H
       have c24b0 : ((rdOf ByteArray.empty t192 1).toList == ([98] : List UInt8)) = true := beq_iff_eq.mpr c24
       have c24b1 : ((rdOf ByteArray.empty t192 1).toList != ([98] : List UInt8)) = false := bne_eq_false_iff_eq.mpr c24
       clear c24
       by_cases c25 : 1 < (t195.length : Int)
       ·rw [if_pos c25] at H
        have c25b0 : decide (1 < (t195.length : Int)) = true := decide_eq_true c25
        have c25b1 : decide (1 < t195.length) = true := decide_eq_true (by omega)
        clear c25
        have H' := Aside0.mk H
        clear H
        have hcz26_0 : w16.cell? ⟨gb199, 0, none⟩ = some (.slice none 0 0) := (blk_cell BK199.out 0).trans rfl
        have hcz26_1 : w16.cell? ⟨gb199, 1, none⟩ = some (.slice none 0 0) := (blk_cell BK199.out 1).trans rfl
        have hfz26_0 := blk_frozen BK199.out 0
        have hfz26_1 := blk_frozen BK199.out 1
        have p200 : 0 ≤ (1 : Int) := (by omega)
        have q200 : 1 < (t192.length : Int) := of_decide_eq_true (by first | (with_reducible assumption) | assumption)
        obtain ⟨ad200, e200, hx200_0⟩ := Kd.at_string (Kd.R_reads' HO194.out).2.2 1 p200 q200
        cases e200
        (try simp only [show (1 : Int).toNat = 1 from rfl, Nat.reduceMul, Nat.reduceEqDiff, Go.Addr.add, ↓reduceIte] at hx200_0)
        have qi200 : (1 < t192.length) = True := eq_true (by omega)
        (try rw [show ((1 : Int)).toNat = 1 from rfl] at hx200_0)
        have hn200_0 : ad200.block ≠ gb199 := Kd.own_blk (Kd.R_ne HO194.out BK199.out (by decide))
        have hn200_1 : ad200.block ≠ gb199 := Kd.own_blk (Kd.R_ne HO194.out BK199.out (by decide))
        replace hx200_0 := (cell_far (p := ⟨gb199, 0, none⟩) (by first | (rw [add_block]; exact hn200_0) | (show (Addr.add _ _).block ≠ _; rw [add_block]; exact hn200_0) | exact hn200_0) (.slice (some ad200) t192.length co17)).trans hx200_0
        replace hx200_0 := (cell_far (p := ⟨gb199, 1, none⟩) (by first | (rw [add_block]; exact hn200_1) | (show (Addr.add _ _).block ≠ _; rw [add_block]; exact hn200_1) | exact hn200_1) (.slice Ao19 t195.length co19)).trans hx200_0
        clear hn200_0
        clear hn200_1
        replace p200 := eq_true p200
        replace q200 := eq_true q200
        have p201 : 0 ≤ (1 : Int) := (by omega)
        have q201 : 1 < (t195.length : Int) := of_decide_eq_true (by first | (with_reducible assumption) | assumption)
        obtain ⟨ad201, e201, hx201_0, hx201_1⟩ := at_T48 (Kd.R_reads' HO197.out).2.2 1 p201 q201
        cases e201
        (try simp only [show (1 : Int).toNat = 1 from rfl, Nat.reduceMul, Nat.reduceEqDiff, Go.Addr.add, ↓reduceIte] at hx201_0)
        (try simp only [show (1 : Int).toNat = 1 from rfl, Nat.reduceMul, Nat.reduceEqDiff, Go.Addr.add, ↓reduceIte] at hx201_1)
        have qi201 : (1 < t195.length) = True := eq_true (by omega)
        (try rw [show ((1 : Int)).toNat = 1 from rfl] at hx201_0)
        (try rw [show 1 * 2 = 2 from rfl] at hx201_0)
        (try rw [show ((1 : Int)).toNat = 1 from rfl] at hx201_1)
        (try rw [show 1 * 2 = 2 from rfl] at hx201_1)
        have hn201_0 : ad201.block ≠ gb199 := Kd.own_blk (Kd.R_ne HO197.out BK199.out (by decide))
        have hn201_1 : ad201.block ≠ gb199 := Kd.own_blk (Kd.R_ne HO197.out BK199.out (by decide))
        replace hx201_0 := (cell_far (p := ⟨gb199, 0, none⟩) (by first | (rw [add_block]; exact hn201_0) | (show (Addr.add _ _).block ≠ _; rw [add_block]; exact hn201_0) | exact hn201_0) (.slice (some ad200) t192.length co17)).trans hx201_0
        replace hx201_1 := (cell_far (p := ⟨gb199, 0, none⟩) (by first | (rw [add_block]; exact hn201_0) | (show (Addr.add _ _).block ≠ _; rw [add_block]; exact hn201_0) | exact hn201_0) (.slice (some ad200) t192.length co17)).trans hx201_1
        replace hx201_0 := (cell_far (p := ⟨gb199, 1, none⟩) (by first | (rw [add_block]; exact hn201_1) | (show (Addr.add _ _).block ≠ _; rw [add_block]; exact hn201_1) | exact hn201_1) (.slice (some ad201) t195.length co19)).trans hx201_0
        replace hx201_1 := (cell_far (p := ⟨gb199, 1, none⟩) (by first | (rw [add_block]; exact hn201_1) | (show (Addr.add _ _).block ≠ _; rw [add_block]; exact hn201_1) | exact hn201_1) (.slice (some ad201) t195.length co19)).trans hx201_1
        clear hn201_0
        clear hn201_1
        replace p201 := eq_true p201
        replace q201 := eq_true q201
        go_wp2
        go_meet
        case rel => exact ⟨_, ((!(((rd_T48 t195 1).f0) == 3) || (!(((rd_T48 t195 1).f1) == 2)))), (by first | rfl | (simp; done) | (simp [*]; done)), H', ⟨by first | omega | exact Nat.le_refl _⟩, ⟨by (with_reducible repeat (first | apply Kd.R_alloc | apply Kd.R_drewN | apply Kd.R_drew)); exact Kd.R_mono (Kd.R_far (p := ⟨gb199, 1, none⟩) (Kd.R_far (p := ⟨gb199, 0, none⟩) (Kd.R_types HO194.out BK199.out (by decide)) (fun _ hk => hk.2) (.slice (some ad200) t192.length co17)) (fun _ hk => hk.2) (.slice (some ad201) t195.length co19)) (fun _ hk => trivial)⟩, ⟨by (with_reducible repeat (first | apply Kd.R_alloc | apply Kd.R_drewN | apply Kd.R_drew)); exact Kd.R_mono (Kd.R_far (p := ⟨gb199, 1, none⟩) (Kd.R_far (p := ⟨gb199, 0, none⟩) (Kd.R_types HO197.out BK199.out (by decide)) (fun _ hk => hk.2) (.slice (some ad200) t192.length co17)) (fun _ hk => hk.2) (.slice (some ad201) t195.length co19)) (fun _ hk => trivial)⟩, ⟨by (with_reducible repeat (first | refine blk_drewN ?_ _ | refine blk_drew ?_ | refine blk_alloc ?_ _)); refine blk_put (cs := #[.slice (some ad200) t192.length co17, .slice none 0 0]) ?_ 1 _ rfl; (with_reducible repeat (first | refine blk_drewN ?_ _ | refine blk_drew ?_ | refine blk_alloc ?_ _)); refine blk_put (cs := #[.slice none 0 0, .slice none 0 0]) ?_ 0 _ rfl; (with_reducible repeat (first | refine blk_drewN ?_ _ | refine blk_drew ?_ | refine blk_alloc ?_ _)); exact BK199.out⟩, ⟨by repeat (first | (with_reducible first | exact HB.out | apply below_alloc | apply pw_below_drewN | apply below_drew1 | refine below_set ?_ GE199.out) | exact HB.out)⟩⟩
       ·rw [if_neg c25] at H
        exact absurd H (by simp)
      ·rw [if_neg c24] at H
       have c24b0 : ((rdOf ByteArray.empty t192 1).toList == ([98] : List UInt8)) = false := beq_eq_false_iff_ne.mpr c24
       have c24b1 : ((rdOf ByteArray.empty t192 1).toList != ([98] : List UInt8)) = true := bne_iff_ne.mpr c24
       have H' := Aside0.mk H
       clear H
       have hcz27_0 : w16.cell? ⟨gb199, 0, none⟩ = some (.slice none 0 0) := (blk_cell BK199.out 0).trans rfl
       have hcz27_1 : w16.cell? ⟨gb199, 1, none⟩ = some (.slice none 0 0) := (blk_cell BK199.out 1).trans rfl
       have hfz27_0 := blk_frozen BK199.out 0
       have hfz27_1 := blk_frozen BK199.out 1
       have p200 : 0 ≤ (1 : Int) := (by omega)
       have q200 : 1 < (t192.length : Int) := of_decide_eq_true (by first | (with_reducible assumption) | assumption)
       obtain ⟨ad200, e200, hx200_0⟩ := Kd.at_string (Kd.R_reads' HO194.out).2.2 1 p200 q200
       cases e200
       (try simp only [show (1 : Int).toNat = 1 from rfl, Nat.reduceMul, Nat.reduceEqDiff, Go.Addr.add, ↓reduceIte] at hx200_0)
       have qi200 : (1 < t192.length) = True := eq_true (by omega)
       (try rw [show ((1 : Int)).toNat = 1 from rfl] at hx200_0)
       have hn200_0 : ad200.block ≠ gb199 := Kd.own_blk (Kd.R_ne HO194.out BK199.out (by decide))
       have hn200_1 : ad200.block ≠ gb199 := Kd.own_blk (Kd.R_ne HO194.out BK199.out (by decide))
       replace hx200_0 := (cell_far (p := ⟨gb199, 0, none⟩) (by first | (rw [add_block]; exact hn200_0) | (show (Addr.add _ _).block ≠ _; rw [add_block]; exact hn200_0) | exact hn200_0) (.slice (some ad200) t192.length co17)).trans hx200_0
       replace hx200_0 := (cell_far (p := ⟨gb199, 1, none⟩) (by first | (rw [add_block]; exact hn200_1) | (show (Addr.add _ _).block ≠ _; rw [add_block]; exact hn200_1) | exact hn200_1) (.slice Ao19 t195.length co19)).trans hx200_0
       clear hn200_0
       clear hn200_1
       replace p200 := eq_true p200
       replace q200 := eq_true q200
       go_wp2
       go_meet
       case rel => exact ⟨_, (true), (by first | rfl | (simp; done) | (simp [*]; done)), H', ⟨by first | omega | exact Nat.le_refl _⟩, ⟨by (with_reducible repeat (first | apply Kd.R_alloc | apply Kd.R_drewN | apply Kd.R_drew)); exact Kd.R_mono (Kd.R_far (p := ⟨gb199, 1, none⟩) (Kd.R_far (p := ⟨gb199, 0, none⟩) (Kd.R_types HO194.out BK199.out (by decide)) (fun _ hk => hk.2) (.slice (some ad200) t192.length co17)) (fun _ hk => hk.2) (.slice Ao19 t195.length co19)) (fun _ hk => trivial)⟩, ⟨by (with_reducible repeat (first | apply Kd.R_alloc | apply Kd.R_drewN | apply Kd.R_drew)); exact Kd.R_mono (Kd.R_far (p := ⟨gb199, 1, none⟩) (Kd.R_far (p := ⟨gb199, 0, none⟩) (Kd.R_types HO197.out BK199.out (by decide)) (fun _ hk => hk.2) (.slice (some ad200) t192.length co17)) (fun _ hk => hk.2) (.slice Ao19 t195.length co19)) (fun _ hk => trivial)⟩, ⟨by (with_reducible repeat (first | refine blk_drewN ?_ _ | refine blk_drew ?_ | refine blk_alloc ?_ _)); refine blk_put (cs := #[.slice (some ad200) t192.length co17, .slice none 0 0]) ?_ 1 _ rfl; (with_reducible repeat (first | refine blk_drewN ?_ _ | refine blk_drew ?_ | refine blk_alloc ?_ _)); refine blk_put (cs := #[.slice none 0 0, .slice none 0 0]) ?_ 0 _ rfl; (with_reducible repeat (first | refine blk_drewN ?_ _ | refine blk_drew ?_ | refine blk_alloc ?_ _)); exact BK199.out⟩, ⟨by repeat (first | (with_reducible first | exact HB.out | apply below_alloc | apply pw_below_drewN | apply below_drew1 | refine below_set ?_ GE199.out) | exact HB.out)⟩⟩
     ·rw [if_neg c23] at H
      exact absurd H (by simp)
    ·rw [if_neg c22] at H
     have c22b0 : ((t195.length : Int) == 3) = false := beq_eq_false_iff_ne.mpr c22
     have c22b1 : ((t195.length : Int) != 3) = true := bne_iff_ne.mpr c22
     have H' := Aside0.mk H
     clear H
     have hcz28_0 : w16.cell? ⟨gb199, 0, none⟩ = some (.slice none 0 0) := (blk_cell BK199.out 0).trans rfl
     have hcz28_1 : w16.cell? ⟨gb199, 1, none⟩ = some (.slice none 0 0) := (blk_cell BK199.out 1).trans rfl
     have hfz28_0 := blk_frozen BK199.out 0
     have hfz28_1 := blk_frozen BK199.out 1
     go_wp2
     go_meet
     case rel => exact ⟨_, (true), (by first | rfl | (simp; done) | (simp [*]; done)), H', ⟨by first | omega | exact Nat.le_refl _⟩, ⟨by (with_reducible repeat (first | apply Kd.R_alloc | apply Kd.R_drewN | apply Kd.R_drew)); exact Kd.R_mono (Kd.R_far (p := ⟨gb199, 1, none⟩) (Kd.R_far (p := ⟨gb199, 0, none⟩) (Kd.R_types HO194.out BK199.out (by decide)) (fun _ hk => hk.2) (.slice Ao17 t192.length co17)) (fun _ hk => hk.2) (.slice Ao19 t195.length co19)) (fun _ hk => trivial)⟩, ⟨by (with_reducible repeat (first | apply Kd.R_alloc | apply Kd.R_drewN | apply Kd.R_drew)); exact Kd.R_mono (Kd.R_far (p := ⟨gb199, 1, none⟩) (Kd.R_far (p := ⟨gb199, 0, none⟩) (Kd.R_types HO197.out BK199.out (by decide)) (fun _ hk => hk.2) (.slice Ao17 t192.length co17)) (fun _ hk => hk.2) (.slice Ao19 t195.length co19)) (fun _ hk => trivial)⟩, ⟨by (with_reducible repeat (first | refine blk_drewN ?_ _ | refine blk_drew ?_ | refine blk_alloc ?_ _)); refine blk_put (cs := #[.slice Ao17 t192.length co17, .slice none 0 0]) ?_ 1 _ rfl; (with_reducible repeat (first | refine blk_drewN ?_ _ | refine blk_drew ?_ | refine blk_alloc ?_ _)); refine blk_put (cs := #[.slice none 0 0, .slice none 0 0]) ?_ 0 _ rfl; (with_reducible repeat (first | refine blk_drewN ?_ _ | refine blk_drew ?_ | refine blk_alloc ?_ _)); exact BK199.out⟩, ⟨by repeat (first | (with_reducible first | exact HB.out | apply below_alloc | apply pw_below_drewN | apply below_drew1 | refine below_set ?_ GE199.out) | exact HB.out)⟩⟩
   ·rw [if_neg c21] at H
    have c21b0 : ((t192.length : Int) == 2) = false := beq_eq_false_iff_ne.mpr c21
    have c21b1 : ((t192.length : Int) != 2) = true := bne_iff_ne.mpr c21
    have H' := Aside0.mk H
    clear H
    have hcz29_0 : w16.cell? ⟨gb199, 0, none⟩ = some (.slice none 0 0) := (blk_cell BK199.out 0).trans rfl
    have hcz29_1 : w16.cell? ⟨gb199, 1, none⟩ = some (.slice none 0 0) := (blk_cell BK199.out 1).trans rfl
    have hfz29_0 := blk_frozen BK199.out 0
    have hfz29_1 := blk_frozen BK199.out 1
    go_wp2
    go_meet
    case rel => exact ⟨_, (true), (by first | rfl | (simp; done) | (simp [*]; done)), H', ⟨by first | omega | exact Nat.le_refl _⟩, ⟨by (with_reducible repeat (first | apply Kd.R_alloc | apply Kd.R_drewN | apply Kd.R_drew)); exact Kd.R_mono (Kd.R_far (p := ⟨gb199, 1, none⟩) (Kd.R_far (p := ⟨gb199, 0, none⟩) (Kd.R_types HO194.out BK199.out (by decide)) (fun _ hk => hk.2) (.slice Ao17 t192.length co17)) (fun _ hk => hk.2) (.slice Ao19 t195.length co19)) (fun _ hk => trivial)⟩, ⟨by (with_reducible repeat (first | apply Kd.R_alloc | apply Kd.R_drewN | apply Kd.R_drew)); exact Kd.R_mono (Kd.R_far (p := ⟨gb199, 1, none⟩) (Kd.R_far (p := ⟨gb199, 0, none⟩) (Kd.R_types HO197.out BK199.out (by decide)) (fun _ hk => hk.2) (.slice Ao17 t192.length co17)) (fun _ hk => hk.2) (.slice Ao19 t195.length co19)) (fun _ hk => trivial)⟩, ⟨by (with_reducible repeat (first | refine blk_drewN ?_ _ | refine blk_drew ?_ | refine blk_alloc ?_ _)); refine blk_put (cs := #[.slice Ao17 t192.length co17, .slice none 0 0]) ?_ 1 _ rfl; (with_reducible repeat (first | refine blk_drewN ?_ _ | refine blk_drew ?_ | refine blk_alloc ?_ _)); refine blk_put (cs := #[.slice none 0 0, .slice none 0 0]) ?_ 0 _ rfl; (with_reducible repeat (first | refine blk_drewN ?_ _ | refine blk_drew ?_ | refine blk_alloc ?_ _)); exact BK199.out⟩, ⟨by repeat (first | (with_reducible first | exact HB.out | apply below_alloc | apply pw_below_drewN | apply below_drew1 | refine below_set ?_ GE199.out) | exact HB.out)⟩⟩
  ·rw [if_neg c20] at H
   have c20b0 : (t198 == 0) = false := beq_eq_false_iff_ne.mpr c20
   have c20b1 : (t198 != 0) = true := bne_iff_ne.mpr c20
   (first | rw [c20b0] | (simp only [i64_w, i32_w]; rw [c20b0]) | skip)
   have H' := Aside0.mk H
   clear H
   go_wp2
   go_meet
   case rel => exact ⟨_, (true), (by first | rfl | (simp; done) | (simp [*]; done)), H', ⟨by first | omega | exact Nat.le_refl _⟩, ⟨by (with_reducible repeat (first | apply Kd.R_alloc | apply Kd.R_drewN | apply Kd.R_drew)); exact Kd.R_mono (Kd.R_far (p := ⟨gb199, 1, none⟩) (Kd.R_far (p := ⟨gb199, 0, none⟩) (Kd.R_types HO194.out BK199.out (by decide)) (fun _ hk => hk.2) (.slice Ao17 t192.length co17)) (fun _ hk => hk.2) (.slice Ao19 t195.length co19)) (fun _ hk => trivial)⟩, ⟨by (with_reducible repeat (first | apply Kd.R_alloc | apply Kd.R_drewN | apply Kd.R_drew)); exact Kd.R_mono (Kd.R_far (p := ⟨gb199, 1, none⟩) (Kd.R_far (p := ⟨gb199, 0, none⟩) (Kd.R_types HO197.out BK199.out (by decide)) (fun _ hk => hk.2) (.slice Ao17 t192.length co17)) (fun _ hk => hk.2) (.slice Ao19 t195.length co19)) (fun _ hk => trivial)⟩, ⟨by (with_reducible repeat (first | refine blk_drewN ?_ _ | refine blk_drew ?_ | refine blk_alloc ?_ _)); refine blk_put (cs := #[.slice Ao17 t192.length co17, .slice none 0 0]) ?_ 1 _ rfl; (with_reducible repeat (first | refine blk_drewN ?_ _ | refine blk_drew ?_ | refine blk_alloc ?_ _)); refine blk_put (cs := #[.slice none 0 0, .slice none 0 0]) ?_ 0 _ rfl; (with_reducible repeat (first | refine blk_drewN ?_ _ | refine blk_drew ?_ | refine blk_alloc ?_ _)); exact BK199.out⟩, ⟨by repeat (first | (with_reducible first | exact HB.out | apply below_alloc | apply pw_below_drewN | apply below_drew1 | refine below_set ?_ GE199.out) | exact HB.out)⟩⟩
 case rest =>
  clear HC2
  try clear c1
  try clear c2
  try clear p2
  try clear q2
  try clear hx2
  try clear qi2
  try clear c10
  try clear c18
  try clear c20
  try clear c20b0
  try clear c20b1
  try clear p20
  try clear q20
  try clear hx20
  try clear qi20
  try clear c21
  try clear c21b0
  try clear c21b1
  try clear c22
  try clear c22b0
  try clear c22b1
  try clear c23
  try clear c23b0
  try clear c23b1
  try clear c24
  try clear c24b0
  try clear c24b1
  try clear c25
  try clear c25b0
  try clear c25b1
  try clear hcz18_0
  try clear hcz18_1
  try clear hcz26_0
  try clear hcz26_1
  try clear hcz27_0
  try clear hcz27_1
  try clear hcz28_0
  try clear hcz28_1
  try clear hcz29_0
  try clear hcz29_1
  try clear hfz18_0
  try clear hfz18_1
  try clear hfz26_0
  try clear hfz26_1
  try clear hfz27_0
  try clear hfz27_1
  try clear hfz28_0
  try clear hfz28_1
  try clear hfz29_0
  try clear hfz29_1
  try clear hx200_0
  try clear hx201_0
  try clear hx201_1
  try clear p200
  try clear p201
  try clear q200
  try clear q201
  obtain ⟨kq, x45_1, rfl, HA, HJ1, HO_200000, HO_200001, BK199, HB⟩ := hcut
  cases kq with
  | zero => exact absurd HA.out (by simp [signalbenchlaw09_lives.j0])
  | succ kj1 =>
   have H := HA.out
   clear HA
   simp only [signalbenchlaw09_lives.j0] at H
   by_cases c30 : x45_1 = true
   ·subst c30
    have H1 : (some false) = some r := by rw [if_pos rfl] at H; exact H
    clear H
    have H := H1
    clear H1
    obtain rfl := Option.some.inj H
    go_wp2
    go_ret
    exact ⟨by first | rfl | (simp [errW_none, errW_some] <;> rfl) | (simp [*, errW_none, errW_some] <;> rfl), by repeat (first | (with_reducible first | exact HB.out | apply below_alloc | apply pw_below_drewN | apply below_drew1 | refine below_set ?_ GE199.out) | exact HB.out)⟩
   ·replace c30 := Bool.eq_false_iff.mpr c30
    subst c30
    have H1 : ((capture_At.f kj1 t192 t195 2).bind fun bt202 => (if bt202.1 = 3 then (if bt202.2 = true then ((capture_Long.f kj1 t192 t195).bind fun t204 => (some (t204 == 5))) else (some false)) else (some false))) = some r := by rw [if_neg (show ¬ (false = true) by decide)] at H; exact H
    clear H
    have H := H1
    clear H1
    replace H := Option.bind_eq_some_iff.mp H
    obtain ⟨⟨t202, t203⟩, A310, H⟩ := H
    replace H : (if t202 = 3 then (if t203 = true then ((capture_Long.f kj1 t192 t195).bind fun t204 => (some (t204 == 5))) else (some false)) else (some false)) = some r := H
    have A31 := Aside0.mk A310
    clear A310
    by_cases c32 : t202 = 3
    ·rw [if_pos c32] at H
     have c32b0 : (t202 == 3) = true := beq_iff_eq.mpr c32
     have c32b1 : (t202 != 3) = false := bne_eq_false_iff_eq.mpr c32
     clear c32
     by_cases c33 : t203 = true
     ·subst c33
      have H1 : ((capture_Long.f kj1 t192 t195).bind fun t204 => (some (t204 == 5))) = some r := by rw [if_pos rfl] at H; exact H
      clear H
      have H := H1
      clear H1
      replace H := Option.bind_eq_some_iff.mp H
      obtain ⟨t204, A340, H⟩ := H
      replace H : (some (t204 == 5)) = some r := H
      have A34 := Aside0.mk A340
      clear A340
      obtain rfl := Option.some.inj H
      have hcz35_0 : wc.cell? ⟨gb199, 0, none⟩ = some (.slice Ao17 t192.length co17) := (blk_cell BK199.out 0).trans rfl
      have hcz35_1 : wc.cell? ⟨gb199, 1, none⟩ = some (.slice Ao19 t195.length co19) := (blk_cell BK199.out 1).trans rfl
      have hfz35_0 := blk_frozen BK199.out 0
      have hfz35_1 := blk_frozen BK199.out 1
      go_wp2_with (first | ((with_reducible refine gate_callee (f := 12) rfl ?_); refine goesL_ (some 48) rfl rfl Try.func12 (by kernel_rfl) rfl #[.agg #[.slice Ao17 t192.length co17, .slice Ao19 t195.length co19], .int .i64 2] rfl (by (try simp only [List.map_toArray, List.map_cons, List.map_nil]); first | done | rfl | (simp only [List.length_drop, List.length_take]; rfl)) ?_; (with_reducible refine (capture_At.calls kj1 _ _ t192 _ _ t195 2 t202 true _ ?side1 ?side2 ?side3 ?side4 A31.out).mono ?_); (case side1 => repeat (first | exact (Kd.R_reads' HO_200000.out).2.2 | (with_reducible refine Kd.C_alloc ?_ _) | (with_reducible refine Kd.C_drewN ?_ _) | (with_reducible refine Kd.C_drew ?_))); (case side2 => exact (Kd.R_reads' HO_200000.out).2.1); (case side3 => repeat (first | exact (Kd.R_reads' HO_200001.out).2.2 | (with_reducible refine Kd.C_alloc ?_ _) | (with_reducible refine Kd.C_drewN ?_ _) | (with_reducible refine Kd.C_drew ?_))); (case side4 => exact (Kd.R_reads' HO_200001.out).2.1); rintro e w36 ⟨rfl, hb⟩; refine ⟨_, rfl, ?_⟩; have n0_ := Aside0.mk (Kd.R_below (by (with_reducible repeat (first | apply Kd.R_alloc | apply Kd.R_drewN | apply Kd.R_drew)); exact HO_200000.out) hb); have n1_ := Aside0.mk (Kd.R_below (by (with_reducible repeat (first | apply Kd.R_alloc | apply Kd.R_drewN | apply Kd.R_drew)); exact HO_200001.out) hb); have n2_ := Aside0.mk (blk_below (g := gb199) (o := .cells #[.slice Ao17 t192.length co17, .slice Ao19 t195.length co19] 25 (0, 0)) (by (with_reducible repeat (first | refine blk_drewN ?_ _ | refine blk_drew ?_ | refine blk_alloc ?_ _)); exact BK199.out) hb); have n3_ := Aside0.mk (below_step (by repeat (first | (with_reducible first | exact HB.out | apply below_alloc | apply pw_below_drewN | apply below_drew1 | refine below_set ?_ GE199.out) | exact HB.out)) hb); clear HO_200000; clear HO_200001; clear BK199; clear HB; have HO_200000 := n0_; have HO_200001 := n1_; have BK199 := n2_; have HB := n3_; clear n0_ n1_ n2_ n3_; (try clear hb); (try clear hb2); (try clear hk); (try clear hi); have hcz37_0 : w36.cell? ⟨gb199, 0, none⟩ = some (.slice Ao17 t192.length co17) := (blk_cell BK199.out 0).trans rfl; have hcz37_1 : w36.cell? ⟨gb199, 1, none⟩ = some (.slice Ao19 t195.length co19) := (blk_cell BK199.out 1).trans rfl; have hfz37_0 := blk_frozen BK199.out 0; have hfz37_1 := blk_frozen BK199.out 1) | (go_at_call 16; (with_reducible refine (capture_Long.calls kj1 _ _ t192 _ _ t195 t204 _ ?side1 ?side2 ?side3 ?side4 A34.out).mono ?_); (case side1 => repeat (first | exact (Kd.R_reads' HO_200000.out).2.2 | (with_reducible refine Kd.C_alloc ?_ _) | (with_reducible refine Kd.C_drewN ?_ _) | (with_reducible refine Kd.C_drew ?_))); (case side2 => exact (Kd.R_reads' HO_200000.out).2.1); (case side3 => repeat (first | exact (Kd.R_reads' HO_200001.out).2.2 | (with_reducible refine Kd.C_alloc ?_ _) | (with_reducible refine Kd.C_drewN ?_ _) | (with_reducible refine Kd.C_drew ?_))); (case side4 => exact (Kd.R_reads' HO_200001.out).2.1); rintro e w38 ⟨rfl, hb⟩; have n0_ := Aside0.mk (Kd.R_below (by (with_reducible repeat (first | apply Kd.R_alloc | apply Kd.R_drewN | apply Kd.R_drew)); exact HO_200000.out) hb); have n1_ := Aside0.mk (Kd.R_below (by (with_reducible repeat (first | apply Kd.R_alloc | apply Kd.R_drewN | apply Kd.R_drew)); exact HO_200001.out) hb); have n2_ := Aside0.mk (blk_below (g := gb199) (o := .cells #[.slice Ao17 t192.length co17, .slice Ao19 t195.length co19] 25 (0, 0)) (by (with_reducible repeat (first | refine blk_drewN ?_ _ | refine blk_drew ?_ | refine blk_alloc ?_ _)); exact BK199.out) hb); have n3_ := Aside0.mk (below_step (by repeat (first | (with_reducible first | exact HB.out | apply below_alloc | apply pw_below_drewN | apply below_drew1 | refine below_set ?_ GE199.out) | exact HB.out)) hb); clear HO_200000; clear HO_200001; clear BK199; clear HB; have HO_200000 := n0_; have HO_200001 := n1_; have BK199 := n2_; have HB := n3_; clear n0_ n1_ n2_ n3_; (try clear hb); (try clear hb2); (try clear hk); (try clear hi)))
      go_ret
      exact ⟨by first | rfl | (simp [errW_none, errW_some] <;> rfl) | (simp [*, errW_none, errW_some] <;> rfl), by repeat (first | (with_reducible first | exact HB.out | apply below_alloc | apply pw_below_drewN | apply below_drew1 | refine below_set ?_ GE199.out) | exact HB.out)⟩
     ·replace c33 := Bool.eq_false_iff.mpr c33
      subst c33
      have H1 : (some false) = some r := by rw [if_neg (show ¬ (false = true) by decide)] at H; exact H
      clear H
      have H := H1
      clear H1
      obtain rfl := Option.some.inj H
      have hcz39_0 : wc.cell? ⟨gb199, 0, none⟩ = some (.slice Ao17 t192.length co17) := (blk_cell BK199.out 0).trans rfl
      have hcz39_1 : wc.cell? ⟨gb199, 1, none⟩ = some (.slice Ao19 t195.length co19) := (blk_cell BK199.out 1).trans rfl
      have hfz39_0 := blk_frozen BK199.out 0
      have hfz39_1 := blk_frozen BK199.out 1
      go_wp2_with (first | ((with_reducible refine gate_callee (f := 12) rfl ?_); refine goesL_ (some 48) rfl rfl Try.func12 (by kernel_rfl) rfl #[.agg #[.slice Ao17 t192.length co17, .slice Ao19 t195.length co19], .int .i64 2] rfl (by (try simp only [List.map_toArray, List.map_cons, List.map_nil]); first | done | rfl | (simp only [List.length_drop, List.length_take]; rfl)) ?_; (with_reducible refine (capture_At.calls kj1 _ _ t192 _ _ t195 2 t202 false _ ?side1 ?side2 ?side3 ?side4 A31.out).mono ?_); (case side1 => repeat (first | exact (Kd.R_reads' HO_200000.out).2.2 | (with_reducible refine Kd.C_alloc ?_ _) | (with_reducible refine Kd.C_drewN ?_ _) | (with_reducible refine Kd.C_drew ?_))); (case side2 => exact (Kd.R_reads' HO_200000.out).2.1); (case side3 => repeat (first | exact (Kd.R_reads' HO_200001.out).2.2 | (with_reducible refine Kd.C_alloc ?_ _) | (with_reducible refine Kd.C_drewN ?_ _) | (with_reducible refine Kd.C_drew ?_))); (case side4 => exact (Kd.R_reads' HO_200001.out).2.1); rintro e w40 ⟨rfl, hb⟩; refine ⟨_, rfl, ?_⟩; have n0_ := Aside0.mk (Kd.R_below (by (with_reducible repeat (first | apply Kd.R_alloc | apply Kd.R_drewN | apply Kd.R_drew)); exact HO_200000.out) hb); have n1_ := Aside0.mk (Kd.R_below (by (with_reducible repeat (first | apply Kd.R_alloc | apply Kd.R_drewN | apply Kd.R_drew)); exact HO_200001.out) hb); have n2_ := Aside0.mk (blk_below (g := gb199) (o := .cells #[.slice Ao17 t192.length co17, .slice Ao19 t195.length co19] 25 (0, 0)) (by (with_reducible repeat (first | refine blk_drewN ?_ _ | refine blk_drew ?_ | refine blk_alloc ?_ _)); exact BK199.out) hb); have n3_ := Aside0.mk (below_step (by repeat (first | (with_reducible first | exact HB.out | apply below_alloc | apply pw_below_drewN | apply below_drew1 | refine below_set ?_ GE199.out) | exact HB.out)) hb); clear HO_200000; clear HO_200001; clear BK199; clear HB; have HO_200000 := n0_; have HO_200001 := n1_; have BK199 := n2_; have HB := n3_; clear n0_ n1_ n2_ n3_; (try clear hb); (try clear hb2); (try clear hk); (try clear hi)))
      go_ret
      exact ⟨by first | rfl | (simp [errW_none, errW_some] <;> rfl) | (simp [*, errW_none, errW_some] <;> rfl), by repeat (first | (with_reducible first | exact HB.out | apply below_alloc | apply pw_below_drewN | apply below_drew1 | refine below_set ?_ GE199.out) | exact HB.out)⟩
    ·rw [if_neg c32] at H
     have c32b0 : (t202 == 3) = false := beq_eq_false_iff_ne.mpr c32
     have c32b1 : (t202 != 3) = true := bne_iff_ne.mpr c32
     obtain rfl := Option.some.inj H
     have hcz41_0 : wc.cell? ⟨gb199, 0, none⟩ = some (.slice Ao17 t192.length co17) := (blk_cell BK199.out 0).trans rfl
     have hcz41_1 : wc.cell? ⟨gb199, 1, none⟩ = some (.slice Ao19 t195.length co19) := (blk_cell BK199.out 1).trans rfl
     have hfz41_0 := blk_frozen BK199.out 0
     have hfz41_1 := blk_frozen BK199.out 1
     go_wp2_with (first | ((with_reducible refine gate_callee (f := 12) rfl ?_); refine goesL_ (some 48) rfl rfl Try.func12 (by kernel_rfl) rfl #[.agg #[.slice Ao17 t192.length co17, .slice Ao19 t195.length co19], .int .i64 2] rfl (by (try simp only [List.map_toArray, List.map_cons, List.map_nil]); first | done | rfl | (simp only [List.length_drop, List.length_take]; rfl)) ?_; (with_reducible refine (capture_At.calls kj1 _ _ t192 _ _ t195 2 t202 t203 _ ?side1 ?side2 ?side3 ?side4 A31.out).mono ?_); (case side1 => repeat (first | exact (Kd.R_reads' HO_200000.out).2.2 | (with_reducible refine Kd.C_alloc ?_ _) | (with_reducible refine Kd.C_drewN ?_ _) | (with_reducible refine Kd.C_drew ?_))); (case side2 => exact (Kd.R_reads' HO_200000.out).2.1); (case side3 => repeat (first | exact (Kd.R_reads' HO_200001.out).2.2 | (with_reducible refine Kd.C_alloc ?_ _) | (with_reducible refine Kd.C_drewN ?_ _) | (with_reducible refine Kd.C_drew ?_))); (case side4 => exact (Kd.R_reads' HO_200001.out).2.1); rintro e w42 ⟨rfl, hb⟩; refine ⟨_, rfl, ?_⟩; have n0_ := Aside0.mk (Kd.R_below (by (with_reducible repeat (first | apply Kd.R_alloc | apply Kd.R_drewN | apply Kd.R_drew)); exact HO_200000.out) hb); have n1_ := Aside0.mk (Kd.R_below (by (with_reducible repeat (first | apply Kd.R_alloc | apply Kd.R_drewN | apply Kd.R_drew)); exact HO_200001.out) hb); have n2_ := Aside0.mk (blk_below (g := gb199) (o := .cells #[.slice Ao17 t192.length co17, .slice Ao19 t195.length co19] 25 (0, 0)) (by (with_reducible repeat (first | refine blk_drewN ?_ _ | refine blk_drew ?_ | refine blk_alloc ?_ _)); exact BK199.out) hb); have n3_ := Aside0.mk (below_step (by repeat (first | (with_reducible first | exact HB.out | apply below_alloc | apply pw_below_drewN | apply below_drew1 | refine below_set ?_ GE199.out) | exact HB.out)) hb); clear HO_200000; clear HO_200001; clear BK199; clear HB; have HO_200000 := n0_; have HO_200001 := n1_; have BK199 := n2_; have HB := n3_; clear n0_ n1_ n2_ n3_; (try clear hb); (try clear hb2); (try clear hk); (try clear hi)))
     go_ret
     exact ⟨by first | rfl | (simp [errW_none, errW_some] <;> rfl) | (simp [*, errW_none, errW_some] <;> rfl), by repeat (first | (with_reducible first | exact HB.out | apply below_alloc | apply pw_below_drewN | apply below_drew1 | refine below_set ?_ GE199.out) | exact HB.out)⟩

end Go.Proofs.Yteafkdadpdofjaa.Q
