/- Go functions of the seat, each with a Lean function of the same answers; no condition beside those that each theorem bears. -/
import Derived.Test.YtkcekcnnjheamaaQx0
import Derived.Test.YtkcekcnnjheamaaQx3
import Derived.Test.YtkcekcnnjheamaaQx6
import Derived.Test.YtkcekcnnjheamaaZp
namespace Go.Proofs.Ytkcekcnnjheamaa.Q
open Go.RowKit Go.Proofs.YtkcekcnnjheamaaW.PrintWords Go.Proofs.YtkcekcnnjheamaaW.PrintLast Go.Proofs.YtkcekcnnjheamaaW.PrintMore
attribute [local go_sem] max2_int min2_int max_two min_two max_three min_three max_four min_four
set_option linter.unusedVariables false
set_option linter.unusedSimpArgs false

/-! ### r50_check: function 33 -/
def r50_check.f (k : Nat) (a0 : ByteArray) (a1_0 : Int) (a1_1 : Int) (a1_2 : Int) (a1_3 : Int) : Option (Int) := if a1_1 < 0 then (some 1) else (if a1_2 < 1 then (some 1) else ((r50_Faults.f k a0).bind fun t467 => ((r50_has.f k t467 a1_3).bind fun t470 => (if t470 = true then (some 0) else (some 1)))))
theorem r50_check.mono : ∀ a0 a1 a2 a3 a4 k, LeO (r50_check.f k a0 a1 a2 a3 a4) (r50_check.f (k + 1) a0 a1 a2 a3 a4) := by
 intro a0 a1 a2 a3 a4 k; unfold r50_check.f; (repeat' first | (with_reducible first | exact r50_Faults.mono _ _ | exact r50_has.mono _ _ _ | exact LeO.refl _ | exact LeO.none _ | refine LeO.ite ?_ ?_ | refine LeO.bind ?_ (fun _ => ?_)))
def r50_check.T1 : Bool × List (List Nat × List Nat) := (true, [([], []), ([0], [0]), ([1], [1]), ([2], [2]), ([3], [3]), ([4, 3], [3, 4]), ([5, 3], [3, 5]), ([3, 6], [3, 6]), ([7, 3], [7]), ([8], [8]), ([9, 8, 8], [8, 9]), ([8], [8]), ([11, 8], [8, 11]), ([10, 12, 10, 8], [8, 10, 12]), ([13, 8], [8, 13]), ([8, 14], [8, 14])])
def r50_check.B1 : List Nat := [0, 1, 3, 7, 15, 31, 63, 127, 255, 511, 1023, 511, 2559, 8191, 16383, 32767]
theorem r50_check.tab1 : rtab .any (opsOf Try.f33 1) = r50_check.T1 := by kernel_rfl
theorem r50_check.bits1 : waitsOk r50_check.T1.2 r50_check.B1 = true := by kernel_rfl
set_option maxHeartbeats 8000000 in
set_option maxRecDepth 100000 in
theorem r50_check.calls (k : Nat) (a0 : ByteArray) (a1_0 : Int) (a1_1 : Int) (a1_2 : Int) (a1_3 : Int) (r : Int) (w : World) (h : r50_check.f k a0 a1_0 a1_1 a1_2 a1_3 = some r) :
  Calls Try.prog 33 #[.string a0, .agg #[.int .i64 a1_0, .int .i64 a1_1, .int .i64 a1_2, .int .i64 a1_3]] w fun e w' => e = .returned (.int .i64 r) ∧ Below w.heap.size w w' := by
 have hu31 := Try.underlying31; have HB := aK (Below.refl w.heap.size w); have H : (if a1_1 < 0 then (some 1) else (if a1_2 < 1 then (some 1) else ((r50_Faults.f k a0).bind fun t467 => ((r50_has.f k t467 a1_3).bind fun t470 => (if t470 = true then (some 0) else (some 1)))))) = some r := h; clear h; by_cases c3 : a1_1 < 0
 ·rw [if_pos c3] at H; have c3b0 : decide (a1_1 < 0) = true := decide_eq_true c3; clear c3; obtain rfl := Option.some.inj H; go_enter Try.func33, Try.ntmps33; (try go_wp2_with (first | ((with_reducible refine gate_dst (N := 3) rfl ?_); refine box_event ?hg (N := 3) ?hd (cs := #[.int .i64 a1_0, .int .i64 a1_1, .int .i64 a1_2, .int .i64 a1_3]) (t := 31) ?hr ?_; (case hd => rfl); (case hg => rfl); (case hr => first | (go_simp; done) | (go_simp; rfl)); intro gb466 hg w4 hbox hb; have n_ := aN (below_step (bS HB.out) hb) <| aN (hbox) <| aN (gz hg (below_size (bS HB.out))) <| aK (gz hg (below_size (bS HB.out))); clear HB; obtain ⟨HB, BK466, GW466, GE466⟩ := n_; clear hb hbox hg))); have n_ := aN (blk_drew BK466.out) <| aK (below_drew1 HB.out); clear BK466 HB; obtain ⟨BK466, HB⟩ := n_; refine start_ (n := 16) (S := fun w' => ce4 w' gb466 (.int .i64 a1_0) (.int .i64 a1_1) (.int .i64 a1_2) (.int .i64 a1_3)) (ds := []) #[false, false, false, false, false, false, false, false, false, false, false, false, false, false, false, false] (by kernel_rfl) rfl rfl (ck4 BK466.out) (fun hHeld => ?_); refine with_tabW r50_check.tab1 r50_check.bits1 (fun HT_ HW_ => ?_); generalize w4.drew = w5 at BK466 HB hHeld ⊢; refine pT HT_ 0 5 (bz 16 1) ?_
  refine tT HT_ HW_ 1 6 (bz 16 3) rfl rfl hHeld (Or.inl ⟨by rfl, by rintro w' ⟨s0, s1, s2, s3⟩; go_simp; with_reducible rfl⟩) ?_
  refine pT HT_ 2 7 (bz 16 7) ?_
  refine pT HT_ 3 8 (bz 16 15) ?_
  refine uT HT_ 4 9 (bz 16 31) ?_
  refine uT HT_ 5 10 (bz 16 63) ?_
  refine uT HT_ 6 11 (bz 16 127) ?_
  refine pT HT_ 7 12 (bz 16 255) ?_
  refine pT HT_ 8 13 (bz 16 511) ?_
  refine uT HT_ 9 14 (bz 16 1023) ?_
  refine uT HT_ 10 15 (bz 16 2047) ?_
  refine uT HT_ 11 16 (bz 16 4095) ?_
  refine uT HT_ 12 17 (bz 16 8191) ?_
  refine uT HT_ 13 18 (bz 16 16383) ?_
  refine uT HT_ 14 19 (bz 16 32767) ?_
  refine pT HT_ 15 20 (bz 16 65535) ?_
  refine done_ (done_of HT_.out (by kernel_rfl)) ?_; (try go_wp2); go_ret; exact ⟨by first | rfl | (simp [errW_none, errW_some] <;> rfl) | (simp [*, errW_none, errW_some] <;> rfl), bB⟩
 ·rw [if_neg c3] at H; have c3b0 : decide (a1_1 < 0) = false := decide_eq_false c3; clear c3; by_cases c6 : a1_2 < 1
  ·rw [if_pos c6] at H; have c6b0 : decide (a1_2 < 1) = true := decide_eq_true c6; clear c6; obtain rfl := Option.some.inj H; go_enter Try.func33, Try.ntmps33; (try go_wp2_with (first | ((with_reducible refine gate_dst (N := 3) rfl ?_); refine box_event ?hg (N := 3) ?hd (cs := #[.int .i64 a1_0, .int .i64 a1_1, .int .i64 a1_2, .int .i64 a1_3]) (t := 31) ?hr ?_; (case hd => rfl); (case hg => rfl); (case hr => first | (go_simp; done) | (go_simp; rfl)); intro gb466 hg w7 hbox hb; have n_ := aN (below_step (bS HB.out) hb) <| aN (hbox) <| aN (gz hg (below_size (bS HB.out))) <| aK (gz hg (below_size (bS HB.out))); clear HB; obtain ⟨HB, BK466, GW466, GE466⟩ := n_; clear hb hbox hg))); have n_ := aN (blk_drew BK466.out) <| aK (below_drew1 HB.out); clear BK466 HB; obtain ⟨BK466, HB⟩ := n_; refine start_ (n := 16) (S := fun w' => ce4 w' gb466 (.int .i64 a1_0) (.int .i64 a1_1) (.int .i64 a1_2) (.int .i64 a1_3)) (ds := []) #[false, false, false, false, false, false, false, false, false, false, false, false, false, false, false, false] (by kernel_rfl) rfl rfl (ck4 BK466.out) (fun hHeld => ?_); refine with_tabW r50_check.tab1 r50_check.bits1 (fun HT_ HW_ => ?_); generalize w7.drew = w8 at BK466 HB hHeld ⊢; refine pT HT_ 0 5 (bz 16 1) ?_
   refine tT HT_ HW_ 1 6 (bz 16 3) rfl rfl hHeld (Or.inl ⟨by rfl, by rintro w' ⟨s0, s1, s2, s3⟩; go_simp; with_reducible rfl⟩) ?_
   refine pT HT_ 2 7 (bz 16 7) ?_
   refine pT HT_ 3 8 (bz 16 15) ?_
   refine pT HT_ 4 9 (bz 16 31) ?_
   refine tT HT_ HW_ 5 10 (bz 16 63) rfl rfl hHeld (Or.inl ⟨by rfl, by rintro w' ⟨s0, s1, s2, s3⟩; go_simp; with_reducible rfl⟩) ?_
   refine pT HT_ 6 11 (bz 16 127) ?_
   refine pT HT_ 7 12 (bz 16 255) ?_
   refine pT HT_ 8 13 (bz 16 511) ?_
   refine uT HT_ 9 14 (bz 16 1023) ?_
   refine uT HT_ 10 15 (bz 16 2047) ?_
   refine uT HT_ 11 16 (bz 16 4095) ?_
   refine uT HT_ 12 17 (bz 16 8191) ?_
   refine uT HT_ 13 18 (bz 16 16383) ?_
   refine uT HT_ 14 19 (bz 16 32767) ?_
   refine pT HT_ 15 20 (bz 16 65535) ?_
   refine done_ (done_of HT_.out (by kernel_rfl)) ?_; (try go_wp2); go_ret; exact ⟨by first | rfl | (simp [errW_none, errW_some] <;> rfl) | (simp [*, errW_none, errW_some] <;> rfl), bB⟩
  ·rw [if_neg c6] at H; have c6b0 : decide (a1_2 < 1) = false := decide_eq_false c6; clear c6; replace H := Option.bind_eq_some_iff.mp H; obtain ⟨t467, A90, H⟩ := H; replace H : ((r50_has.f k t467 a1_3).bind fun t470 => (if t470 = true then (some 0) else (some 1))) = some r := H; have A9 := aK A90; clear A90; replace H := Option.bind_eq_some_iff.mp H; obtain ⟨t470, A100, H⟩ := H; replace H : (if t470 = true then (some 0) else (some 1)) = some r := H; have A10 := aK A100; clear A100; by_cases c11 : t470 = true
   ·subst c11; (have H1 : (some 0) = some r := by rw [if_pos rfl] at H; exact H); clear H; have H := H1; clear H1; obtain rfl := Option.some.inj H; go_enter Try.func33, Try.ntmps33; (try go_wp2_with (first | ((with_reducible refine gate_dst (N := 3) rfl ?_); refine box_event ?hg (N := 3) ?hd (cs := #[.int .i64 a1_0, .int .i64 a1_1, .int .i64 a1_2, .int .i64 a1_3]) (t := 31) ?hr ?_; (case hd => rfl); (case hg => rfl); (case hr => first | (go_simp; done) | (go_simp; rfl)); intro gb466 hg w12 hbox hb; have n_ := aN (below_step (bS HB.out) hb) <| aN (hbox) <| aN (gz hg (below_size (bS HB.out))) <| aK (gz hg (below_size (bS HB.out))); clear HB; obtain ⟨HB, BK466, GW466, GE466⟩ := n_; clear hb hbox hg))); have n_ := aN (blk_drew BK466.out) <| aK (below_drew1 HB.out); clear BK466 HB; obtain ⟨BK466, HB⟩ := n_; refine start_ (n := 16) (S := fun w' => ce4 w' gb466 (.int .i64 a1_0) (.int .i64 a1_1) (.int .i64 a1_2) (.int .i64 a1_3)) (ds := []) #[false, false, false, false, false, false, false, false, false, false, false, false, false, false, false, false] (by kernel_rfl) rfl rfl (ck4 BK466.out) (fun hHeld => ?_); refine with_tabW r50_check.tab1 r50_check.bits1 (fun HT_ HW_ => ?_); generalize w12.drew = w13 at BK466 HB hHeld ⊢; refine pT HT_ 0 5 (bz 16 1) ?_
    refine tT HT_ HW_ 1 6 (bz 16 3) rfl rfl hHeld (Or.inl ⟨by rfl, by rintro w' ⟨s0, s1, s2, s3⟩; go_simp; with_reducible rfl⟩) ?_
    refine pT HT_ 2 7 (bz 16 7) ?_
    refine pT HT_ 3 8 (bz 16 15) ?_
    refine pT HT_ 4 9 (bz 16 31) ?_
    refine tT HT_ HW_ 5 10 (bz 16 63) rfl rfl hHeld (Or.inl ⟨by rfl, by rintro w' ⟨s0, s1, s2, s3⟩; go_simp; with_reducible rfl⟩) ?_
    refine pT HT_ 6 11 (bz 16 127) ?_
    refine pT HT_ 7 12 (bz 16 255) ?_
    refine pT HT_ 8 13 (bz 16 511) ?_
    refine pT HT_ 9 14 (bz 16 1023) ?_
    refine pT HT_ 11 16 (bz 16 3071) ?_
    refine tT HT_ HW_ 12 17 (bz 16 7167) rfl rfl hHeld (Or.inl ⟨by rfl, by rintro w' ⟨s0, s1, s2, s3⟩; go_simp; with_reducible rfl⟩) ?_
    refine one_ (i := 10) (N := some 15) #[true, true, true, true, true, true, true, true, true, true, true, true, true, false, false, false] rfl rfl (one_of HT_.out (by kernel_rfl)) (by decide) (fun K hK => ?_); refine goes_ Try.func11 (by kernel_rfl) rfl #[.string a0] (by rfl) rfl rfl (by (try simp only [List.map_toArray, List.map_cons, List.map_nil]); first | done | rfl | (simp only [List.length_drop, List.length_take]; rfl)) ?_; (with_reducible refine (r50_Faults.calls k a0 t467 _ A9.out).mono ?_); rintro e w14 ⟨v468, rfl, ho0, hb⟩; refine ⟨_, rfl, ?_⟩; have n_ := aN (Kd.R_lower ho0 (below_size bB)) <| aN (blk_below (kS BK466.out) hb) <| aK (below_step bB hb); clear BK466 HB; obtain ⟨HO469, BK466, HB⟩ := n_; (try clear hb); (try clear hb2); (try clear hk); (try clear hi); (try clear ho0); obtain ⟨Ao15, co15, eo15⟩ := Kd.R_slice HO469.out; (first | subst eo15 | (injection eo15 with f1_ f2_ f3_; have f4_ := f1_.symm; have f5_ := f3_.symm; clear f1_ f2_ f3_; subst f4_; subst f5_)); refine hK.out _ _ (ck4 BK466.out) (fun hHeld => ?_); clear hK K; refine norm_ (a' := ?_) ?_ ?_; rotate_left
    ·(show Act.put _ (some 15) _ = _); simp only [Act.put, sA, sZ, sU, i64_w, i32_w]; rfl
    refine one_ (i := 13) (N := some 18) #[true, true, true, true, true, true, true, true, true, true, true, true, true, true, false, false] rfl rfl (one_of HT_.out (by kernel_rfl)) (by decide) (fun K hK => ?_); refine goes_ Try.func30 (by kernel_rfl) rfl #[.slice Ao15 t467.length co15, .int .i64 a1_3] (by rfl) rfl rfl (by (try simp only [List.map_toArray, List.map_cons, List.map_nil]); first | done | rfl | (simp only [List.length_drop, List.length_take]; rfl)) ?_; (with_reducible refine (r50_has.calls k _ _ t467 a1_3 true _ ?side1 ?side2 A10.out).mono ?_); (case side1 => repeat (first | exact (Kd.R_reads' HO469.out).2.2 | (with_reducible refine Kd.C_alloc ?_ _) | (with_reducible refine Kd.C_drewN ?_ _) | (with_reducible refine Kd.C_drew ?_))); (case side2 => exact (Kd.R_reads' HO469.out).2.1); rintro e w' ⟨rfl, ⟨nd, rfl⟩⟩; refine ⟨_, rfl, ?_⟩; refine hK.out _ _ (ck4 BK466.out) (fun hHeld => ?_); clear hK K; refine norm_ (a' := ?_) ?_ ?_; rotate_left
    ·(show Act.put _ (some 18) _ = _); simp only [Act.put, sA, sZ, sU, i64_w, i32_w]; rfl
    refine pT HT_ 14 19 (bz 16 32767) ?_
    refine pT HT_ 15 20 (bz 16 65535) ?_
    refine done_ (done_of HT_.out (by kernel_rfl)) ?_; (try go_wp2); go_ret; exact ⟨by first | rfl | (simp [errW_none, errW_some] <;> rfl) | (simp [*, errW_none, errW_some] <;> rfl), bB⟩
   ·replace c11 := Bool.eq_false_iff.mpr c11; subst c11; (have H1 : (some 1) = some r := by rw [if_neg (show ¬ (false = true) by decide)] at H; exact H); clear H; have H := H1; clear H1; obtain rfl := Option.some.inj H; go_enter Try.func33, Try.ntmps33; (try go_wp2_with (first | ((with_reducible refine gate_dst (N := 3) rfl ?_); refine box_event ?hg (N := 3) ?hd (cs := #[.int .i64 a1_0, .int .i64 a1_1, .int .i64 a1_2, .int .i64 a1_3]) (t := 31) ?hr ?_; (case hd => rfl); (case hg => rfl); (case hr => first | (go_simp; done) | (go_simp; rfl)); intro gb466 hg w16 hbox hb; have n_ := aN (below_step (bS HB.out) hb) <| aN (hbox) <| aN (gz hg (below_size (bS HB.out))) <| aK (gz hg (below_size (bS HB.out))); clear HB; obtain ⟨HB, BK466, GW466, GE466⟩ := n_; clear hb hbox hg))); have n_ := aN (blk_drew BK466.out) <| aK (below_drew1 HB.out); clear BK466 HB; obtain ⟨BK466, HB⟩ := n_; refine start_ (n := 16) (S := fun w' => ce4 w' gb466 (.int .i64 a1_0) (.int .i64 a1_1) (.int .i64 a1_2) (.int .i64 a1_3)) (ds := []) #[false, false, false, false, false, false, false, false, false, false, false, false, false, false, false, false] (by kernel_rfl) rfl rfl (ck4 BK466.out) (fun hHeld => ?_); refine with_tabW r50_check.tab1 r50_check.bits1 (fun HT_ HW_ => ?_); generalize w16.drew = w17 at BK466 HB hHeld ⊢; refine pT HT_ 0 5 (bz 16 1) ?_
    refine tT HT_ HW_ 1 6 (bz 16 3) rfl rfl hHeld (Or.inl ⟨by rfl, by rintro w' ⟨s0, s1, s2, s3⟩; go_simp; with_reducible rfl⟩) ?_
    refine pT HT_ 2 7 (bz 16 7) ?_
    refine pT HT_ 3 8 (bz 16 15) ?_
    refine pT HT_ 4 9 (bz 16 31) ?_
    refine tT HT_ HW_ 5 10 (bz 16 63) rfl rfl hHeld (Or.inl ⟨by rfl, by rintro w' ⟨s0, s1, s2, s3⟩; go_simp; with_reducible rfl⟩) ?_
    refine pT HT_ 6 11 (bz 16 127) ?_
    refine pT HT_ 7 12 (bz 16 255) ?_
    refine pT HT_ 8 13 (bz 16 511) ?_
    refine pT HT_ 9 14 (bz 16 1023) ?_
    refine pT HT_ 11 16 (bz 16 3071) ?_
    refine tT HT_ HW_ 12 17 (bz 16 7167) rfl rfl hHeld (Or.inl ⟨by rfl, by rintro w' ⟨s0, s1, s2, s3⟩; go_simp; with_reducible rfl⟩) ?_
    refine one_ (i := 10) (N := some 15) #[true, true, true, true, true, true, true, true, true, true, true, true, true, false, false, false] rfl rfl (one_of HT_.out (by kernel_rfl)) (by decide) (fun K hK => ?_); refine goes_ Try.func11 (by kernel_rfl) rfl #[.string a0] (by rfl) rfl rfl (by (try simp only [List.map_toArray, List.map_cons, List.map_nil]); first | done | rfl | (simp only [List.length_drop, List.length_take]; rfl)) ?_; (with_reducible refine (r50_Faults.calls k a0 t467 _ A9.out).mono ?_); rintro e w18 ⟨v468, rfl, ho0, hb⟩; refine ⟨_, rfl, ?_⟩; have n_ := aN (Kd.R_lower ho0 (below_size bB)) <| aN (blk_below (kS BK466.out) hb) <| aK (below_step bB hb); clear BK466 HB; obtain ⟨HO469, BK466, HB⟩ := n_; (try clear hb); (try clear hb2); (try clear hk); (try clear hi); (try clear ho0); obtain ⟨Ao19, co19, eo19⟩ := Kd.R_slice HO469.out; (first | subst eo19 | (injection eo19 with f1_ f2_ f3_; have f4_ := f1_.symm; have f5_ := f3_.symm; clear f1_ f2_ f3_; subst f4_; subst f5_)); refine hK.out _ _ (ck4 BK466.out) (fun hHeld => ?_); clear hK K; refine norm_ (a' := ?_) ?_ ?_; rotate_left
    ·(show Act.put _ (some 15) _ = _); simp only [Act.put, sA, sZ, sU, i64_w, i32_w]; rfl
    refine one_ (i := 13) (N := some 18) #[true, true, true, true, true, true, true, true, true, true, true, true, true, true, false, false] rfl rfl (one_of HT_.out (by kernel_rfl)) (by decide) (fun K hK => ?_); refine goes_ Try.func30 (by kernel_rfl) rfl #[.slice Ao19 t467.length co19, .int .i64 a1_3] (by rfl) rfl rfl (by (try simp only [List.map_toArray, List.map_cons, List.map_nil]); first | done | rfl | (simp only [List.length_drop, List.length_take]; rfl)) ?_; (with_reducible refine (r50_has.calls k _ _ t467 a1_3 false _ ?side1 ?side2 A10.out).mono ?_); (case side1 => repeat (first | exact (Kd.R_reads' HO469.out).2.2 | (with_reducible refine Kd.C_alloc ?_ _) | (with_reducible refine Kd.C_drewN ?_ _) | (with_reducible refine Kd.C_drew ?_))); (case side2 => exact (Kd.R_reads' HO469.out).2.1); rintro e w' ⟨rfl, ⟨nd, rfl⟩⟩; refine ⟨_, rfl, ?_⟩; refine hK.out _ _ (ck4 BK466.out) (fun hHeld => ?_); clear hK K; refine norm_ (a' := ?_) ?_ ?_; rotate_left
    ·(show Act.put _ (some 18) _ = _); simp only [Act.put, sA, sZ, sU, i64_w, i32_w]; rfl
    refine pT HT_ 14 19 (bz 16 32767) ?_
    refine pT HT_ 15 20 (bz 16 65535) ?_
    refine done_ (done_of HT_.out (by kernel_rfl)) ?_; (try go_wp2); go_ret; exact ⟨by first | rfl | (simp [errW_none, errW_some] <;> rfl) | (simp [*, errW_none, errW_some] <;> rfl), bB⟩

end Go.Proofs.Ytkcekcnnjheamaa.Q
