/- Go functions of the seat, each with a Lean function of the same answers; no condition beside those that each theorem bears. -/
import Derived.Test.YtllpgidmdomfcaaQx0
import Derived.Test.YtllpgidmdomfcaaQx3
import Derived.Test.YtllpgidmdomfcaaZp
namespace Go.Proofs.Ytllpgidmdomfcaa.Q
open Go.RowKit Go.Proofs.YtllpgidmdomfcaaW.PrintWords Go.Proofs.YtllpgidmdomfcaaW.PrintLast Go.Proofs.YtllpgidmdomfcaaW.PrintMore
attribute [local go_sem] max2_int min2_int max_two min_two max_three min_three max_four min_four
set_option linter.unusedVariables false
set_option linter.unusedSimpArgs false

/-! ### slices_Contains_string: function 64 -/
def slices_Contains_string.f (k : Nat) (l0 : List ByteArray) (a1 : ByteArray) : Option (Bool) := (slices_Index_string.f k l0 a1).bind fun t106 => (some (decide (t106 ≥ 0)))
theorem slices_Contains_string.mono : ∀ a0 a1 k, LeO (slices_Contains_string.f k a0 a1) (slices_Contains_string.f (k + 1) a0 a1) := by
 intro a0 a1 k; unfold slices_Contains_string.f; (repeat' first | (with_reducible first | exact slices_Index_string.mono _ _ _ | exact LeO.refl _ | exact LeO.none _ | refine LeO.ite ?_ ?_ | refine LeO.bind ?_ (fun _ => ?_)))
set_option maxHeartbeats 8000000 in
set_option maxRecDepth 100000 in
theorem slices_Contains_string.calls (k : Nat) (A0 : Option Addr) (c0 : Nat) (l0 : List ByteArray) (a1 : ByteArray) (r : Bool) (w : World) (hr0 : Kd.C Kd.string w A0 l0.length l0) (hc0 : l0.length ≤ c0) (h : slices_Contains_string.f k l0 a1 = some r) :
  Calls Try.prog 64 #[.slice A0 l0.length c0, .string a1] w fun e w' => e = .returned (.bool r) ∧ Drawn0 w w' := by
 have HR0 := aK hr0; have HC0 := aK hc0; clear hr0 hc0; have H : ((slices_Index_string.f k l0 a1).bind fun t106 => (some (decide (t106 ≥ 0)))) = some r := h; clear h; replace H := Option.bind_eq_some_iff.mp H; obtain ⟨t106, A30, H⟩ := H; replace H : (some (decide (t106 ≥ 0))) = some r := H; have A3 := aK A30; clear A30; obtain rfl := Option.some.inj H; go_enter Try.func64, Try.ntmps64; go_wp2_with (first | ((with_reducible refine gate_callee (f := 38) rfl ?_); refine goesL_ (some 7) rfl rfl Try.func38 (by kernel_rfl) rfl #[.slice A0 l0.length c0, .string a1] rfl (by (try simp only [List.map_toArray, List.map_cons, List.map_nil]); first | done | rfl | (simp only [List.length_drop, List.length_take]; rfl)) ?_; (with_reducible refine (slices_Index_string.calls k _ _ l0 a1 t106 _ ?side1 ?side2 A3.out).mono ?_); (case side1 => exact cS HR0.out); (case side2 => exact HC0.out); rintro e w' ⟨rfl, ⟨nd, rfl⟩⟩; refine ⟨_, rfl, ?_⟩)); go_ret; exact ⟨by first | rfl | (simp; done) | (simp [*]; done), by repeat (first | exact Drawn0.refl _ | apply Drawn0.step)⟩

/-! ### remap_join: function 37 -/
def remap_join.f (l0 : List (S48)) (a1 : Int) (a2 : Int) : Option ((List (S48))) := if (l0.length : Int) > 0 then (if 0 ≤ (wrap64 ((l0.length : Int) - 1)) then (if (wrap64 ((l0.length : Int) - 1)) < (l0.length : Int) then (if ((rd_T48 l0 (wrap64 ((l0.length : Int) - 1))).f0) = a1 then (some (l0.set ((wrap64 ((l0.length : Int) - 1)) : Int).toNat (⟨(rd_T48 l0 (wrap64 ((l0.length : Int) - 1))).f0, wrap64 (((rd_T48 l0 (wrap64 ((l0.length : Int) - 1))).f1) + a2)⟩ : S48))) else (if l0.length < 8796093022208 then (some (l0 ++ [(⟨a1, a2⟩ : S48)])) else (none))) else (none)) else (none)) else (if l0.length < 8796093022208 then (some (l0 ++ [(⟨a1, a2⟩ : S48)])) else (none))
set_option maxHeartbeats 8000000 in
set_option maxRecDepth 100000 in
theorem remap_join.calls (P0_ : Nat → Prop) (u9000_ : Value) (l0 : List (S48)) (a1 : Int) (a2 : Int) (r : List (S48)) (w0 w : World) (hB : Below w0.heap.size w0 w) (ho0 : Kd.R k48 48 w w0.heap.size P0_ u9000_ l0) (h : remap_join.f l0 a1 a2 = some r) :
  Calls Try.prog 37 #[u9000_, .int .i64 a1, .int .i64 a2] w fun e w' => ∃ v0_ : Value, e = .returned (v0_) ∧ Kd.R k48 48 w' w0.heap.size (fun k_ => (P0_ k_ ∨ w.heap.size ≤ k_)) v0_ r ∧ Below w0.heap.size w0 w' ∧ Kept w w' (fun k_ => P0_ k_) := by
 have hu48 := Try.underlying48; have HO0 := aK (show Kd.R k48 48 w w0.heap.size (fun k_ => (P0_ k_ ∨ w.heap.size ≤ k_)) u9000_ l0 from Kd.R_mono ho0 (fun k_ hk => (.inl hk))); have HK := aK (Kept.refl w (fun k_ => P0_ k_)); have HW0 := aK hB.size; have HB := aK hB; clear hB; have H : (if (l0.length : Int) > 0 then (if 0 ≤ (wrap64 ((l0.length : Int) - 1)) then (if (wrap64 ((l0.length : Int) - 1)) < (l0.length : Int) then (if ((rd_T48 l0 (wrap64 ((l0.length : Int) - 1))).f0) = a1 then (some (l0.set ((wrap64 ((l0.length : Int) - 1)) : Int).toNat (⟨(rd_T48 l0 (wrap64 ((l0.length : Int) - 1))).f0, wrap64 (((rd_T48 l0 (wrap64 ((l0.length : Int) - 1))).f1) + a2)⟩ : S48))) else (if l0.length < 8796093022208 then (some (l0 ++ [(⟨a1, a2⟩ : S48)])) else (none))) else (none)) else (none)) else (if l0.length < 8796093022208 then (some (l0 ++ [(⟨a1, a2⟩ : S48)])) else (none))) = some r := h; clear h; by_cases c4 : (l0.length : Int) > 0
 ·rw [if_pos c4] at H; have c4b0 : decide (0 < (l0.length : Int)) = true := decide_eq_true c4; have c4b1 : decide (0 < l0.length) = true := decide_eq_true (by omega); clear c4; obtain ⟨ji5, hji5⟩ : ∃ j_ : Int, (wrap64 ((l0.length : Int) - 1)) = j_ := ⟨_, rfl⟩; (replace H : (if 0 ≤ (ji5) then (if (ji5) < (l0.length : Int) then (if ((rd_T48 l0 (ji5)).f0) = a1 then (some (l0.set ((ji5) : Int).toNat (⟨(rd_T48 l0 (ji5)).f0, wrap64 (((rd_T48 l0 (ji5)).f1) + a2)⟩ : S48))) else (if l0.length < 8796093022208 then (some (l0 ++ [(⟨a1, a2⟩ : S48)])) else (none))) else (none)) else (none)) = some r := by first | (rw [hji5] at H; exact H) | (simp only [hji5] at H ⊢; exact H)); have hji5w : (IntKind.i64.wrap ((l0.length : Int) - 1)) = ji5 := (i64_w _).trans hji5; by_cases c6 : 0 ≤ (ji5)
  ·rw [if_pos c6] at H; have c6b0 : decide (0 ≤ (ji5)) = true := decide_eq_true c6; clear c6; by_cases c7 : (ji5) < (l0.length : Int)
   ·rw [if_pos c7] at H; have c7b0 : decide ((ji5) < (l0.length : Int)) = true := decide_eq_true c7; clear c7; by_cases c8 : ((rd_T48 l0 (ji5)).f0) = a1
    ·rw [if_pos c8] at H; have c8b0 : (((rd_T48 l0 (ji5)).f0) == a1) = true := beq_iff_eq.mpr c8; have c8b1 : (((rd_T48 l0 (ji5)).f0) != a1) = false := bne_eq_false_iff_eq.mpr c8; clear c8; obtain ⟨y131, hy131⟩ : ∃ y_ : List (S48), y_ = (l0.set ((ji5) : Int).toNat (⟨(rd_T48 l0 (ji5)).f0, wrap64 (((rd_T48 l0 (ji5)).f1) + a2)⟩ : S48)) := ⟨_, rfl⟩; (replace H : (some y131) = some r := by first | (rw [hy131]; with_reducible exact H) | (have H2_ := (Option.bind_some _ _).symm.trans H; rw [hy131]; with_reducible exact H2_) | (have H2_ := (Option.bind_some _ _).symm.trans H; with_reducible exact H2_) | with_reducible exact H | (rw [hy131]; exact H) | exact H); have Ny131 := aK hy131; clear hy131; obtain rfl := Option.some.inj H; obtain ⟨Ao10, co10, eo10⟩ := Kd.R_slice HO0.out; subst eo10; have p129 : 0 ≤ ((ji5) : Int) := oD; have q129 : (ji5) < (l0.length : Int) := oD; obtain ⟨ad129, e129, hx129_0, hx129_1⟩ := at_T48 (Kd.R_reads' HO0.out).2.2 (ji5) p129 q129; cases e129; replace p129 := eq_true p129; replace q129 := eq_true q129; have p130 : 0 ≤ ((ji5) : Int) := oD; have q130 : (ji5) < (l0.length : Int) := oD; obtain ⟨ad130, e130, hx130_0, hx130_1⟩ := at_T48 (Kd.R_reads' HO0.out).2.2 (ji5) p130 q130; obtain rfl : ad129 = ad130 := (by injection e130); replace p130 := eq_true p130; replace q130 := eq_true q130; have p9 : 0 ≤ ((ji5) : Int) := oD; have q9 : ((ji5) : Int) < ((l0.length : Int) : Int) := oD; obtain ⟨go9, co9, eo9, gb9, gl9, cl9, HG9⟩ := Kd.R_form HO0.out (by omega); (first | cases eo9 | (injection eo9 with ea_ en_ ec_; (first | subst ea_ | (injection ea_ with ea_; subst ea_)); subst ec_; clear en_)); have GB9 := aK gb9; have GG9 := aK HG9; clear gb9 gl9 HG9; have HMgo9 := aK (show (P0_ go9 ∨ w.heap.size ≤ go9) from (HO0.out.1 _ rfl)); (first | simp only [add_plain] at hx129_0 | skip); (first | simp only [add_plain] at hx129_1 | skip); (first | simp only [add_plain] at hx130_0 | skip); (first | simp only [add_plain] at hx130_1 | skip); obtain ⟨ce9, hcl9, hM9, hcc9, hfr9⟩ := Kd.R_elem HO0.out z48 ((ji5) : Int) p9 q9; obtain rfl := k48_openM hM9; have hx9_0 : w.cell? ⟨go9, ((ji5) : Int).toNat * 2, none⟩ = some (.int .i64 ((rd_T48 l0 (ji5)).f0)) := hcc9 0 _ rfl; have hx9_1 : w.cell? ⟨go9, ((ji5) : Int).toNat * 2 + 1, none⟩ = some (.int .i64 ((rd_T48 l0 (ji5)).f1)) := hcc9 1 _ rfl; have hf9_0 : w.frozen? ⟨go9, ((ji5) : Int).toNat * 2, none⟩ = false := hfr9 0; have hf9_1 : w.frozen? ⟨go9, ((ji5) : Int).toNat * 2 + 1, none⟩ = false := hfr9 1; clear hcl9 hcc9 hfr9 hM9; replace p9 := eq_true p9; replace q9 := eq_true q9; have HX11 := aK (show Kd.R k48 48 w w0.heap.size (fun k_ => (P0_ k_ ∨ w.heap.size ≤ k_)) (.slice (some ⟨go9, 0, none⟩) l0.length co10) l0 from (rS HO0.out)); obtain ⟨ce11, hcl11, hM11, hcc11, hfr11⟩ := Kd.R_elem HX11.out z48 ((ji5) : Int) oD (by have h_ : ((ji5) : Int) < ((l0.length : Int) : Int) := oD; first | exact h_ | (have e_ := (Kd.R_reads' HO0.out).1; omega) | simpa using h_); obtain rfl := k48_openM hM11; have HP11 := Kd.R_seg HX11.out ((ji5) : Int) oD (by have h_ : ((ji5) : Int) < ((l0.length : Int) : Int) := oD; first | exact h_ | (have e_ := (Kd.R_reads' HO0.out).1; omega) | simpa using h_) (seg := [.int .i64 (wrap64 (((rd_T48 l0 (ji5)).f1) + a2))]) (j := 1) hcl11 hcc11 (show 2 ≤ 2 from by decide) (x' := (⟨(rd_T48 l0 (ji5)).f0, wrap64 (((rd_T48 l0 (ji5)).f1) + a2)⟩ : S48)) (k48_mkM _ _ _ (⟨(rd_T48 l0 (ji5)).f0, wrap64 (((rd_T48 l0 (ji5)).f1) + a2)⟩ : S48) ) (fun _ hk => hk); have hx11_1 := hcc11 1 _ rfl; (try simp only [show (k48).sz = 2 from rfl, Nat.mul_one, Nat.add_zero] at hx11_1); have hf11_1 := hfr11 1; (try simp only [show (k48).sz = 2 from rfl, Nat.mul_one, Nat.add_zero] at hf11_1); clear hcl11 hcc11 hfr11 hM11; go_enter Try.func37, Try.ntmps37; go_wp2_with (first | ((with_reducible refine gate_store (t := 3) (p := 31) rfl ?_); refine store_event (t := 3) (p := 31) (v := ?vo_w12) (w1 := (w.setCell ⟨go9, ((ji5) : Int).toNat * 2 + 1, none⟩ (.int .i64 (wrap64 (((rd_T48 l0 (ji5)).f1) + a2))))) ?hg ?ho ?hn ?hr ?_; (case ho => rfl); (case hg => rfl); (case hn => rfl); (case hr => first | (go_simp; done) | (go_simp; rfl)); intro w12 hw; have hg : w.grownBy w12 (some go9) := (by rw [hw]; exact HP11.2); have hp_ : Kd.R k48 48 w12 w0.heap.size (fun k_ => (P0_ k_ ∨ w.heap.size ≤ k_)) (.slice (some ⟨go9, 0, none⟩) l0.length co10) y131 := (by rw [hw, Ny131.out]; exact HP11.1); clear HP11; have n_ := aN (hp_) <| aN ((by rw [hw]; exact below_set (HB.out) GB9.out : Below w0.heap.size w0 w12)) <| aK (Kept.of_grown (S := (fun k_ => P0_ k_)) hg (by repeat (first | (with_reducible first | exact HK.out | apply Kept.alloc | apply Kept.drewN | apply Kept.drew) | exact HK.out)) (fun k_ e_ => (HO0.out.1 k_ e_))); clear HO0 HB HK; obtain ⟨HO0, HB, HK⟩ := n_; clear hg hw hp_)); go_ret; exact ⟨_, by first | rfl | (simp [errW_none, errW_some] <;> rfl) | (simp only [← hji5]; first | rfl | (simp [errW_none, errW_some] <;> rfl)) | (simp [*, errW_none, errW_some] <;> rfl), rS HO0.out, bS HB.out, by repeat (first | (with_reducible first | exact HK.out | apply Kept.alloc | apply Kept.drewN | apply Kept.drew) | exact HK.out)⟩
    ·rw [if_neg c8] at H; have c8b0 : (((rd_T48 l0 (ji5)).f0) == a1) = false := beq_eq_false_iff_ne.mpr c8; have c8b1 : (((rd_T48 l0 (ji5)).f0) != a1) = true := bne_iff_ne.mpr c8; by_cases c13 : l0.length < 8796093022208
     ·rw [if_pos c13] at H; have LMc13 := aK c13; clear c13; obtain ⟨y132, hy132⟩ : ∃ y_ : List (S48), y_ = (l0 ++ [(⟨a1, a2⟩ : S48)]) := ⟨_, rfl⟩; (replace H : (some y132) = some r := by first | (rw [hy132]; with_reducible exact H) | (have H2_ := (Option.bind_some _ _).symm.trans H; rw [hy132]; with_reducible exact H2_) | (have H2_ := (Option.bind_some _ _).symm.trans H; with_reducible exact H2_) | with_reducible exact H | (rw [hy132]; exact H) | exact H); have Ny132 := aK hy132; clear hy132; obtain rfl := Option.some.inj H; obtain ⟨Ao14, co14, eo14⟩ := Kd.R_slice HO0.out; subst eo14; have p129 : 0 ≤ ((ji5) : Int) := oD; have q129 : (ji5) < (l0.length : Int) := oD; obtain ⟨ad129, e129, hx129_0, hx129_1⟩ := at_T48 (Kd.R_reads' HO0.out).2.2 (ji5) p129 q129; cases e129; replace p129 := eq_true p129; replace q129 := eq_true q129; go_enter Try.func37, Try.ntmps37; go_wp2_with (first | ((with_reducible refine gate_builtin (b := .append) (xs := #[.tmp 33, .tmp 37]) rfl ?_); at_builtin; refine Kd.R_append k48 (w0 := w0) w0.heap.size rfl (.tmp 33) (.tmp 37) 23 48 (.agg #[(.int .i64 0), (.int .i64 0)]) 16 rfl Try.underlying23 info48 rfl (by decide) (by omega) (.slice (some ad129) l0.length co14) l0 (⟨a1, a2⟩ : S48) [.int .i64 a1, .int .i64 a2] (fun k_ => (P0_ k_ ∨ w.heap.size ≤ k_)) (fun _ => False) rfl rfl ?aP (fun _ hk => hk.elim) ?aF ?aO ?aB ?aS ?aL ?_; (case aP => exact k48_mkM _ _ _ (⟨a1, a2⟩ : S48)); (case aB => exact (bS HB.out)); (case aF => exact (fun k_ hk => (.inr (Nat.le_trans (by first | exact HK.out.1 | exact (show Kept w _ (fun k_ => P0_ k_) from by repeat (first | (with_reducible first | exact HK.out | apply Kept.alloc | apply Kept.drewN | apply Kept.drew) | exact HK.out)).1) hk)))); (case aO => exact (rS HO0.out)); (case aS => exact (below_size (bS HB.out))); (case aL => have := LMc13.out; omega); intro v133 w15 ho hb hg hat; rw [← Ny132.out] at ho; have n_ := aN (hb) <| aN (Kept.of_grown (S := (fun k_ => P0_ k_)) hg (by repeat (first | (with_reducible first | exact HK.out | apply Kept.alloc | apply Kept.drewN | apply Kept.drew) | exact HK.out)) (fun k_ e_ => (HO0.out.1 k_ e_))) <| aK (ho); clear HB HK HO0; obtain ⟨HB, HK, HO134⟩ := n_; clear ho hb hg hat)); go_ret; exact ⟨_, by first | rfl | (simp [errW_none, errW_some] <;> rfl) | (simp only [← hji5]; first | rfl | (simp [errW_none, errW_some] <;> rfl)) | (simp [*, errW_none, errW_some] <;> rfl), rS HO134.out, bS HB.out, by repeat (first | (with_reducible first | exact HK.out | apply Kept.alloc | apply Kept.drewN | apply Kept.drew) | exact HK.out)⟩
     ·rw [if_neg c13] at H; exact absurd H (by simp)
   ·rw [if_neg c7] at H; exact absurd H (by simp)
  ·rw [if_neg c6] at H; exact absurd H (by simp)
 ·rw [if_neg c4] at H; have c4b0 : decide (0 < (l0.length : Int)) = false := decide_eq_false c4; have c4b1 : decide (0 < l0.length) = false := decide_eq_false (by omega); clear c4; by_cases c16 : l0.length < 8796093022208
  ·rw [if_pos c16] at H; have LMc16 := aK c16; clear c16; obtain ⟨y135, hy135⟩ : ∃ y_ : List (S48), y_ = (l0 ++ [(⟨a1, a2⟩ : S48)]) := ⟨_, rfl⟩; (replace H : (some y135) = some r := by first | (rw [hy135]; with_reducible exact H) | (have H2_ := (Option.bind_some _ _).symm.trans H; rw [hy135]; with_reducible exact H2_) | (have H2_ := (Option.bind_some _ _).symm.trans H; with_reducible exact H2_) | with_reducible exact H | (rw [hy135]; exact H) | exact H); have Ny135 := aK hy135; clear hy135; obtain rfl := Option.some.inj H; obtain ⟨Ao17, co17, eo17⟩ := Kd.R_slice HO0.out; subst eo17; go_enter Try.func37, Try.ntmps37; go_wp2_with (first | ((with_reducible refine gate_builtin (b := .append) (xs := #[.tmp 33, .tmp 37]) rfl ?_); at_builtin; refine Kd.R_append k48 (w0 := w0) w0.heap.size rfl (.tmp 33) (.tmp 37) 23 48 (.agg #[(.int .i64 0), (.int .i64 0)]) 16 rfl Try.underlying23 info48 rfl (by decide) (by omega) (.slice Ao17 l0.length co17) l0 (⟨a1, a2⟩ : S48) [.int .i64 a1, .int .i64 a2] (fun k_ => (P0_ k_ ∨ w.heap.size ≤ k_)) (fun _ => False) rfl rfl ?aP (fun _ hk => hk.elim) ?aF ?aO ?aB ?aS ?aL ?_; (case aP => exact k48_mkM _ _ _ (⟨a1, a2⟩ : S48)); (case aB => exact (bS HB.out)); (case aF => exact (fun k_ hk => (.inr (Nat.le_trans (by first | exact HK.out.1 | exact (show Kept w _ (fun k_ => P0_ k_) from by repeat (first | (with_reducible first | exact HK.out | apply Kept.alloc | apply Kept.drewN | apply Kept.drew) | exact HK.out)).1) hk)))); (case aO => exact (rS HO0.out)); (case aS => exact (below_size (bS HB.out))); (case aL => have := LMc16.out; omega); intro v136 w18 ho hb hg hat; rw [← Ny135.out] at ho; have n_ := aN (hb) <| aN (Kept.of_grown (S := (fun k_ => P0_ k_)) hg (by repeat (first | (with_reducible first | exact HK.out | apply Kept.alloc | apply Kept.drewN | apply Kept.drew) | exact HK.out)) (fun k_ e_ => (HO0.out.1 k_ e_))) <| aK (ho); clear HB HK HO0; obtain ⟨HB, HK, HO137⟩ := n_; clear ho hb hg hat)); go_ret; exact ⟨_, by first | rfl | (simp [errW_none, errW_some] <;> rfl) | (simp [*, errW_none, errW_some] <;> rfl), rS HO137.out, bS HB.out, by repeat (first | (with_reducible first | exact HK.out | apply Kept.alloc | apply Kept.drewN | apply Kept.drew) | exact HK.out)⟩
  ·rw [if_neg c16] at H; exact absurd H (by simp)

section
open Go.Maps Go.WideMaps Go.ChangeMaps
/-! ### remap_twice: function 28 -/
def remap_twice.n (s : List UInt8) : List ByteArray → Nat
 | [] => 0
 | t :: l => (if t.data.toList = s then 1 else 0) + remap_twice.n s l
def remap_twice.f (l0 : List ByteArray) : Option Bool := if l0.all (fun s => decide (s.size ≤ 140737488351232)) = true then (if l0.length ≤ 140737488351232 then some (l0.any (fun s => decide (1 < remap_twice.n s.data.toList l0))) else none) else none
theorem remap_twice.n_app (s : List UInt8) : ∀ (a b : List ByteArray), remap_twice.n s (a ++ b) = remap_twice.n s a + remap_twice.n s b
 | [], b => by simp [remap_twice.n]
 | t :: a, b => by
  have := remap_twice.n_app s a b; simp only [List.cons_append, remap_twice.n]; omega
theorem remap_twice.n_le (s : List UInt8) : ∀ (l : List ByteArray), remap_twice.n s l ≤ l.length
 | [] => Nat.le_refl _
 | t :: l => by
  have := remap_twice.n_le s l; simp only [remap_twice.n, List.length_cons]; (split <;> omega)
theorem remap_twice.n_mem {s : List UInt8} : ∀ {l : List ByteArray}, 1 ≤ remap_twice.n s l → ∃ t ∈ l, t.data.toList = s
 | [], h => by simp [remap_twice.n] at h
 | t :: l, h => by
  by_cases c : t.data.toList = s
  ·exact ⟨t, by simp, c⟩
  ·simp only [remap_twice.n, if_neg c] at h; obtain ⟨u, hu, e⟩ := remap_twice.n_mem (s := s) (l := l) (by omega); exact ⟨u, by simp [hu], e⟩
theorem remap_twice.mem_n : ∀ {l : List ByteArray} {t : ByteArray}, t ∈ l → 1 ≤ remap_twice.n t.data.toList l
 | [], t, h => by simp at h
 | u :: l, t, h => by
  simp only [remap_twice.n]; rcases List.mem_cons.1 h with rfl | h
  ·rw [if_pos rfl]; omega
  ·have := remap_twice.mem_n h; omega
theorem remap_twice.law : Go.Maps.Keyed Try.prog 9 := Go.Maps.string_keyed Try.underlying9
theorem remap_twice.invK {key : Value} {kl : Lit} (h : keyOf Try.prog 9 key = some kl) : ∃ x, key = .string x := by
 cases key <;> simp [keyOf, Try.underlying9, mapKey] at h; exact ⟨_, rfl⟩
theorem remap_twice.zeroE (w : World) : (zeroValue 3).run Try.prog w = .ok (.int .i64 0) w := by kernel_rfl
set_option maxHeartbeats 8000000 in
set_option maxRecDepth 100000 in
theorem remap_twice.calls (A0 : Option Addr) (c0 : Nat) (l0 : List ByteArray) (r : Bool) (w : World) (hr0 : Kd.C Kd.string w A0 l0.length l0) (hc0 : l0.length ≤ c0) (h : remap_twice.f l0 = some r) :
 Calls Try.prog 28 #[.slice A0 l0.length c0] w fun e w' => e = .returned (.bool r) ∧ Below w.heap.size w w' := by
 unfold remap_twice.f at h; by_cases hs0 : l0.all (fun s => decide (s.size ≤ 140737488351232)) = true
 ·rw [if_pos hs0] at h; by_cases hl0 : l0.length ≤ 140737488351232
  ·rw [if_pos hl0] at h; (have hsz : ∀ s ∈ l0, s.size ≤ 140737488351232 := fun s hs => of_decide_eq_true (List.all_eq_true.1 hs0 s hs)); have er : l0.any (fun s => decide (1 < remap_twice.n s.data.toList l0)) = r := Option.some.inj h; clear h hs0 hc0; have hmm := @run_makeMap Try.prog; go_enter Try.func28, Try.ntmps28; go_wp2
   go_loopw [11] (fun i wr => ∃ (k : Nat) (D : DataW Unit), k ≤ l0.length ∧ i = .int .i64 (k : Int) ∧ wr.ownsMap Try.prog 9 (plainElem Try.prog 3) w.heap.size k D ∧ Go.Maps.IsMap D ∧ (∀ s : List UInt8, D.atKey (.string s) (.lit (.int .i64 0)) = .lit (.int .i64 ((remap_twice.n s (l0.take k) : Nat) : Int))) ∧ Below w.heap.size w wr)
    (fun i _ => l0.length - (intOf i).toNat)
   (case atStart => exact ⟨0, .map [], Nat.zero_le _, rfl, World.ownsMap_made _ _ _ _, Go.Maps.isMap_empty, fun s => rfl, (Below.refl _ _).alloc (Nat.le_refl _) _⟩)
   case round =>
    obtain ⟨k, D, hk, rfl, hown, hmap, hD, hnx⟩ := hrel; by_cases hlt : k < l0.length
    ·obtain ⟨s, hs⟩ : ∃ s, s = rdOf ByteArray.empty l0 (k : Int) := ⟨_, rfl⟩; obtain ⟨ad, ead, hx⟩ := Kd.at_string (Kd.C_below hr0 hnx) (k : Int) (Int.natCast_nonneg k) (by omega); cases ead; rw [← hs, Int.toNat_natCast] at hx
     have hel : l0[k]? = some s := by
      rw [hs]; simp [rdOf, List.getD, List.getElem?_eq_getElem hlt]
     have hss : s.size ≤ 140737488351232 := hsz s (List.mem_of_getElem? hel); have hkey : keyOf Try.prog 9 (.string s) = some (.string s.data.toList) := keyOf_string_mk Try.underlying9 (by unfold maxLen; omega); clear hs hsz; have hklt : decide ((k : Int) < (l0.length : Int)) = true := decide_eq_true (by omega)
     go_wp2_with (first
      | (at_lookup; refine wpList_lookup_own_int _ rfl _ _ 68 rfl 9 3 .i64 remap_twice.law Try.underlying68 Try.underlying3 (remap_twice.zeroE _) w.heap.size k D rfl hown _ _ rfl hkey ?_; intro c hat hwc)
      | (at_mapUpdate; refine wpList_mapUpdate_own _ rfl _ _ _ 68 rfl 9 3 remap_twice.law Try.underlying68 _ w.heap.size k D rfl hown (by unfold maxLen; omega) _ _ _ rfl rfl hkey _ [] (plainElem_int Try.underlying3 (wrap64_wf _)) ?_; intro w1 hown1 hgrow1)
      | go_in)
     have hc : c = ((remap_twice.n s.data.toList (l0.take k) : Nat) : Int) := by
      have h1 := hat.symm.trans (hD s.data.toList); injection h1 with h1; injection h1 with _ h1
     have hnk := remap_twice.n_le s.data.toList (l0.take k)
     have hlk : (l0.take k).length ≤ k := by
      rw [List.length_take]; omega
     have htk : l0.take (k + 1) = l0.take k ++ [s] := by
      rw [List.take_add_one, hel]; rfl
     refine ⟨⟨k + 1, _, by omega, by push_cast; rfl, hown1, hmap.put _ _, fun s' => ?_, hnx.grown hgrow1 hnx.size (fun j hj => by cases hj; exact Nat.le_refl _)⟩, by simp [intOf]; omega⟩; rw [htk, remap_twice.n_app]; by_cases e : s' = s.data.toList
     ·subst e; rw [atKey_put_same (k := Lit.string s.data.toList) hmap (show WideAt.IsKeyLit (Lit.string s.data.toList) from trivial), show remap_twice.n s.data.toList [s] = 1 by simp [remap_twice.n]]
      have hw : wrap64 (c + 1) = c + 1 := by
       unfold wrap64; omega
      rw [hw, hc]; norm_cast
     ·rw [atKey_put_other (fun h => e (by injection h)), hD s', show remap_twice.n s' [s] = 0 by (simp [remap_twice.n]; exact fun h => e h.symm)]; rfl
    ·have hklt : decide ((k : Int) < (l0.length : Int)) = false := decide_eq_false (by omega); have ek : l0.take k = l0 := List.take_of_length_le (by omega); rw [ek] at hD; clear hsz hr0; obtain ⟨wa, hwa⟩ : ∃ wa, wa = wr := ⟨_, rfl⟩; subst hwa
     go_wp2_with (first
      | (at_range; refine wpList_range_own _ rfl _ 68 rfl 9 3 remap_twice.law Try.underlying68 _ w.heap.size k D rfl hown ?_; intro w0 hrg0 hg0 hs0)
      | go_in)
     go_frame
     go_loopw [7] (fun _ wq => ∃ (left : Lit → Bool) (cnt : Nat), wq.ranges Try.prog 9 (plainElem Try.prog 3) w.heap.size wa.heap.size k D left cnt ∧ (∀ s : List UInt8, has D (.string s) = true → left (.string s) = false → remap_twice.n s l0 ≤ 1) ∧ Below w.heap.size w wq)
      (fun _ wq => wq.rangeLeft w.heap.size wa.heap.size)
     (case atStart => exact ⟨_, _, hrg0, (fun s h1 h2 => by rw [h1] at h2; cases h2), hnx.grown hg0 hnx.size (fun j hj => by cases hj)⟩)
     case round =>
      obtain ⟨left, cnt, hrg, hle, hnq⟩ := hrel
      go_wp2_with (first
       | (at_next; refine wpList_next_ranges _ rfl _ rfl 9 remap_twice.law (plainElem Try.prog 3) Value.string (Value.int .i64) (fun key kl hkey => remap_twice.invK hkey) (fun v y hv => by obtain ⟨c, rfl, _⟩ := plainElem_int_inv Try.underlying3 hv; exact ⟨c, rfl⟩) w.heap.size wa.heap.size k D left cnt rfl hrg ?_ ?_)
       | go_in)
      ·intro _ hl0'
       have ef : l0.any (fun s => decide (1 < remap_twice.n s.data.toList l0)) = false := by
        rw [List.any_eq_false]; intro s hs; have h1 := remap_twice.mem_n hs
        have h2 : has D (.string s.data.toList) = true := by
         cases hh : has D (.string s.data.toList) with
         | true => rfl
         | false =>
          have h3 := (atKey_of_not_has hh (.lit (.int .i64 0))).symm.trans (hD s.data.toList); injection h3 with h3; injection h3 with _ h3; omega
        have h4 := hle _ h2 (hl0' _); simp only [decide_eq_true_eq]; omega
       rw [ef] at er; subst er; go_wp2; go_ret; exact ⟨rfl, hnq⟩
      ·intro x c kl y ps w1 cnt1 hkey hlk hv hat hrg1 hlt hg1 hs1 hen
       have ekl : kl = .string x.data.toList := by
        simp [keyOf, Try.underlying9, mapKey] at hkey; exact hkey.2.symm
       subst ekl; obtain ⟨a, ea, ey, _⟩ := plainElem_int_inv Try.underlying3 hv; injection ea with _ ea; subst ea; simp only [Prod.mk.injEq] at ey
       have hc : c = ((remap_twice.n x.data.toList l0 : Nat) : Int) := by
        have h3 := ((hat (.lit (.int .i64 0))).trans ey.1).symm.trans (hD x.data.toList); injection h3 with h3; injection h3 with _ h3
       have hnw : Below w.heap.size w w1 := hnq.grown hg1 hnq.size (fun j hj => by
        cases hj; exact hnx.size)
       by_cases h2 : 1 < c
       ·have hd2 : decide (1 < c) = true := decide_eq_true h2
        have et : l0.any (fun s => decide (1 < remap_twice.n s.data.toList l0)) = true := by
         obtain ⟨t, ht, e⟩ := remap_twice.n_mem (s := x.data.toList) (l := l0) (by omega); rw [List.any_eq_true]; refine ⟨t, ht, ?_⟩; rw [e]; exact decide_eq_true (by omega)
        rw [et] at er; subst er; go_wp2; go_ret; exact ⟨rfl, hnw⟩
       ·have hd2 : decide (1 < c) = false := decide_eq_false h2; go_wp2; go_roundw
        case rel =>
         refine ⟨_, _, hrg1, fun s h3 h4 => ?_, hnw⟩; by_cases e : left (.string s) = true
         ·rw [e, Bool.true_and] at h4
          have h5 : Lit.string s = Lit.string x.data.toList := by
           apply Classical.byContradiction; intro hne; rw [sameKey_ne hne] at h4; cases h4
          injection h5 with h5; rw [h5]; omega
         ·exact hle s h3 (by simpa using e)
        case measure =>
         rw [hrg1.left_eq, hrg.left_eq]; exact hlt
  ·rw [if_neg hl0] at h; cases h
 ·rw [if_neg hs0] at h; cases h
end

end Go.Proofs.Ytllpgidmdomfcaa.Q
