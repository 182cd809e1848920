/- Go functions of the seat, each with a Lean function of the same answers; no condition beside those that each theorem bears. -/
import Derived.Test.YtdbpablakhfdcaaQx0
import Derived.Test.YtdbpablakhfdcaaQx3
import Derived.Test.YtdbpablakhfdcaaQx8
import Derived.Test.YtdbpablakhfdcaaZp
namespace Go.Proofs.Ytdbpablakhfdcaa.Q
open Go.RowKit Go.Proofs.YtdbpablakhfdcaaW.PrintWords Go.Proofs.YtdbpablakhfdcaaW.PrintLast Go.Proofs.YtdbpablakhfdcaaW.PrintMore
attribute [local go_sem] max2_int min2_int max_two min_two max_three min_three max_four min_four
set_option linter.unusedVariables false
set_option linter.unusedSimpArgs false

/-! ### i2c_Encode: function 14 -/
/-- A line in memory: its block holds the time and the row of its runs. -/
def LineAt (w0 w : World) (g : Nat) (P : Nat → Prop) (t : Int) (l : List S53) : Prop :=
  Below w0.heap.size w0 w ∧ w0.heap.size ≤ g ∧ ∃ v : Value, w.heap[g]? = some (.cells #[.int .i64 t, v] 66 (0, 0)) ∧ Kd.R k53 53 w w0.heap.size P v l
def line_put.f (l0 : List (S53)) (a1 : Int) (a2 : Int) : Option ((List (S53))) := if a2 < 1 then some l0 else (if (l0.length : Int) > 0 then (if 0 ≤ (wrap64 ((l0.length : Int) - 1)) then (if (wrap64 ((l0.length : Int) - 1)) < (l0.length : Int) then (if ((rd_T53 l0 (wrap64 ((l0.length : Int) - 1))).f0) = a1 then (some (l0.set ((wrap64 ((l0.length : Int) - 1)) : Int).toNat (⟨(rd_T53 l0 (wrap64 ((l0.length : Int) - 1))).f0, wrap64 (((rd_T53 l0 (wrap64 ((l0.length : Int) - 1))).f1) + a2)⟩ : S53))) else (if l0.length < 8796093022208 then (some (l0 ++ [(⟨a1, a2⟩ : S53)])) else (none))) else (none)) else (none)) else (if l0.length < 8796093022208 then (some (l0 ++ [(⟨a1, a2⟩ : S53)])) else (none)))
set_option maxHeartbeats 8000000 in
set_option maxRecDepth 100000 in
theorem line_put.calls (P0_ : Nat → Prop) (g : Nat) (t : Int) (l0 : List (S53)) (a1 : Int) (a2 : Int) (r : List (S53)) (w0 w : World) (hL : LineAt w0 w g P0_ t l0) (hf : ∀ k, w.heap.size ≤ k → P0_ k) (h : line_put.f l0 a1 a2 = some r) :
  Calls Try.prog 36 #[.pointer (some ⟨g, 0, none⟩), .int .i64 a1, .int .i64 a2] w fun e w' => e = .returned (.tuple #[]) ∧ LineAt w0 w' g P0_ t r ∧ Kept w w' (fun k_ => P0_ k_ ∨ k_ = g) := by
 have hu53 := Try.underlying53
 have hu66 := Try.underlying66
 obtain ⟨hB, hg0, v, hbk, ho0⟩ := hL
 have HO0 := aK ho0
 have BK := aK hbk
 have HG0 := aK hg0
 have HK := aK (Kept.refl w (fun k_ => P0_ k_ ∨ k_ = g))
 have HF := aK hf
 have HB := aK hB
 clear hB ho0 hbk hg0 hf
 have H := h
 unfold line_put.f at H
 clear h
 by_cases c0 : a2 < 1
 · rw [if_pos c0] at H
   have c0b : decide (a2 < 1) = true := decide_eq_true c0
   obtain rfl := Option.some.inj H
   go_enter Try.func36, Try.ntmps36
   go_wp2
   refine bodyPost_ret (v := .tuple #[]) (by simp [results, Try.results36, go_sem]) rfl ⟨rfl, ?_⟩
   exact ⟨⟨HB.out, HG0.out, v, BK.out, HO0.out⟩, HK.out⟩
 · rw [if_neg c0] at H
   have c0b : decide (a2 < 1) = false := decide_eq_false c0
   obtain ⟨Ao, co, eo⟩ := Kd.R_slice HO0.out
   subst eo
   have hz0 : w.cell? ⟨g, 0, none⟩ = some (.int .i64 t) := (blk_cell BK.out 0).trans rfl
   have hz1 : w.cell? ⟨g, 1, none⟩ = some (.slice Ao l0.length co) := (blk_cell BK.out 1).trans rfl
   have hy0 := blk_frozen BK.out 0
   have hy1 := blk_frozen BK.out 1
   by_cases c1 : (l0.length : Int) > 0
   · rw [if_pos c1] at H
     have c1b : decide (0 < (l0.length : Int)) = true := decide_eq_true c1
     have c1b1 : decide (0 < l0.length) = true := decide_eq_true (by omega)
     obtain ⟨ji, hji⟩ : ∃ j_ : Int, (wrap64 ((l0.length : Int) - 1)) = j_ := ⟨_, rfl⟩
     rw [hji] at H
     have hjiw : (IntKind.i64.wrap ((l0.length : Int) - 1)) = ji := (i64_w _).trans hji
     by_cases p9 : 0 ≤ ji
     · rw [if_pos p9] at H
       by_cases q9 : ji < (l0.length : Int)
       · rw [if_pos q9] at H
         have p9b := decide_eq_true p9
         have q9b := decide_eq_true q9
         obtain ⟨ad264, e264, hx264_0, hx264_1⟩ := at_T53 (Kd.R_reads' HO0.out).2.2 ji p9 q9
         cases e264
         by_cases c8 : ((rd_T53 l0 ji).f0) = a1
         · rw [if_pos c8] at H
           have c8b0 : (((rd_T53 l0 ji).f0) == a1) = true := beq_iff_eq.mpr c8
           obtain ⟨go9, co9, eo9, gb9, gl9, cl9, HG9⟩ := Kd.R_form HO0.out (by omega)
           (first | cases eo9 | (injection eo9 with ea_ en_ ec_; (first | subst ea_ | (injection ea_ with ea_; subst ea_)); subst ec_; clear en_))
           have GB9 := aK gb9
           clear gb9 gl9 HG9
           (first | simp only [add_plain] at hx264_0 | skip)
           (first | simp only [add_plain] at hx264_1 | skip)
           obtain ⟨ce9, hcl9, hM9, hcc9, hfr9⟩ := Kd.R_elem HO0.out z53 ji p9 q9
           obtain rfl := k53_openM hM9
           have hf9_0 : w.frozen? ⟨go9, ji.toNat * 2, none⟩ = false := hfr9 0
           have hf9_1 : w.frozen? ⟨go9, ji.toNat * 2 + 1, none⟩ = false := hfr9 1
           have HP := aK (Kd.R_seg HO0.out ji p9 q9 (seg := [.int .i64 (wrap64 (((rd_T53 l0 ji).f1) + a2))]) (j := 1) hcl9 hcc9 (show 2 ≤ 2 from by decide) (x' := (⟨(rd_T53 l0 ji).f0, wrap64 (((rd_T53 l0 ji).f1) + a2)⟩ : S53)) (k53_mkM _ _ _ (⟨(rd_T53 l0 ji).f0, wrap64 (((rd_T53 l0 ji).f1) + a2)⟩ : S53)) (fun _ hk => hk))
           clear hcl9 hcc9 hfr9 hM9
           have hne : g ≠ go9 := fun e => Kd.R_ne HO0.out BK.out (by decide) (by rw [e]; rfl)
           have HM := HO0.out.1 go9 rfl
           have eR := aK (Option.some.inj H)
           clear H
           rw [c8] at hx264_0 c8b0 HP eR
           clear c8
           go_enter Try.func36, Try.ntmps36
           go_wp2
           refine bodyPost_ret (v := .tuple #[]) (by simp [results, Try.results36, go_sem]) rfl ⟨rfl, ?_⟩
           rw [← eR.out]
           exact ⟨⟨below_set HB.out GB9.out, HG0.out, _, (Below.heap_setCell w ⟨go9, _, none⟩ _ g hne).trans BK.out, HP.out.1⟩, Kept.of_grown HP.out.2 HK.out (fun k e => by cases e; exact .inl (.inl HM))⟩
         · rw [if_neg c8] at H
           have c8b0 : (((rd_T53 l0 ji).f0) == a1) = false := beq_eq_false_iff_ne.mpr c8
           by_cases c9 : l0.length < 8796093022208
           · rw [if_pos c9] at H
             obtain rfl := Option.some.inj H
             have LM := aK c9
             clear c9 H
             go_enter Try.func36, Try.ntmps36
             go_wp2_with ((with_reducible refine gate_builtin (b := .append) (xs := #[.tmp 46, .tmp 50]) rfl ?_); at_builtin; refine Kd.R_append k53 (w0 := w0) w0.heap.size rfl (.tmp 46) (.tmp 50) 34 53 (.agg #[(.int .i64 0), (.int .i64 0)]) 16 rfl Try.underlying34 info53 rfl (by decide) (by omega) (.slice (some ad264) l0.length co) l0 (⟨a1, a2⟩ : S53) [.int .i64 a1, .int .i64 a2] P0_ (fun _ => False) rfl rfl ?aP (fun _ hk => hk.elim) ?aF ?aO ?aB ?aS ?aL ?_; (case aP => exact k53_mkM _ _ _ (⟨a1, a2⟩ : S53)); (case aB => exact HB.out); (case aF => exact HF.out); (case aO => exact HO0.out); (case aS => exact below_size HB.out); (case aL => have := LM.out; omega); intro v15 w15 ho hb hg hat; obtain ⟨A15, c15, e15⟩ := Kd.R_slice ho; subst e15; have HO1 := aK ho; have BK1 := aK (blk_grown BK.out hg (Kd.R_ne HO0.out BK.out (by decide))); have HB1 := aK hb; have HK1 := aK (Kept.of_grown hg HK.out (fun k e => .inl (.inl (HO0.out.1 k e)))); clear ho hb hat; have hd1 : w15.cell? ⟨g, 1, none⟩ = some (.slice (some ad264) l0.length co) := (blk_cell BK1.out 1).trans rfl; have he1 := blk_frozen BK1.out 1)
             have hR : Kd.R k53 53 (w15.setCell ⟨g, 1, none⟩ (.slice A15 (l0 ++ [(⟨a1, a2⟩ : S53)]).length c15)) w0.heap.size P0_ (.slice A15 (l0 ++ [(⟨a1, a2⟩ : S53)]).length c15) (l0 ++ [(⟨a1, a2⟩ : S53)]) := Kd.R_mono (Kd.R_far (p := ⟨g, 1, none⟩) (Kd.R_types HO1.out BK1.out (by decide)) (fun _ hk => hk.2) _) (fun _ hk => hk.1)
             rw [show (l0 ++ [(⟨a1, a2⟩ : S53)]).length = l0.length + 1 by simp] at hR
             refine bodyPost_end (v := .tuple #[]) (by simp [results, Try.results36, go_sem]) rfl ⟨rfl, ?_⟩
             exact ⟨⟨below_set HB1.out HG0.out, HG0.out, _, blk_put BK1.out 1 _ rfl, hR⟩, ⟨by simpa [World.setCell] using HK1.out.1, fun i hi hn => (Below.heap_setCell w15 ⟨g, 1, none⟩ _ i (fun e => hn (.inr e))).trans (HK1.out.2 i hi hn)⟩⟩
           · rw [if_neg c9] at H
             cases H
       · rw [if_neg q9] at H
         cases H
     · rw [if_neg p9] at H
       cases H
   · rw [if_neg c1] at H
     have c1b : decide (0 < (l0.length : Int)) = false := decide_eq_false c1
     have c1b1 : decide (0 < l0.length) = false := decide_eq_false (by omega)
     by_cases c9 : l0.length < 8796093022208
     · rw [if_pos c9] at H
       obtain rfl := Option.some.inj H
       have LM := aK c9
       clear c9 H
       go_enter Try.func36, Try.ntmps36
       go_wp2_with ((with_reducible refine gate_builtin (b := .append) (xs := #[.tmp 46, .tmp 50]) rfl ?_); at_builtin; refine Kd.R_append k53 (w0 := w0) w0.heap.size rfl (.tmp 46) (.tmp 50) 34 53 (.agg #[(.int .i64 0), (.int .i64 0)]) 16 rfl Try.underlying34 info53 rfl (by decide) (by omega) (.slice Ao l0.length co) l0 (⟨a1, a2⟩ : S53) [.int .i64 a1, .int .i64 a2] P0_ (fun _ => False) rfl rfl ?aP (fun _ hk => hk.elim) ?aF ?aO ?aB ?aS ?aL ?_; (case aP => exact k53_mkM _ _ _ (⟨a1, a2⟩ : S53)); (case aB => exact HB.out); (case aF => exact HF.out); (case aO => exact HO0.out); (case aS => exact below_size HB.out); (case aL => have := LM.out; omega); intro v15 w15 ho hb hg hat; obtain ⟨A15, c15, e15⟩ := Kd.R_slice ho; subst e15; have HO1 := aK ho; have BK1 := aK (blk_grown BK.out hg (Kd.R_ne HO0.out BK.out (by decide))); have HB1 := aK hb; have HK1 := aK (Kept.of_grown hg HK.out (fun k e => .inl (.inl (HO0.out.1 k e)))); clear ho hb hat; have hd1 : w15.cell? ⟨g, 1, none⟩ = some (.slice Ao l0.length co) := (blk_cell BK1.out 1).trans rfl; have he1 := blk_frozen BK1.out 1)
       have hR : Kd.R k53 53 (w15.setCell ⟨g, 1, none⟩ (.slice A15 (l0 ++ [(⟨a1, a2⟩ : S53)]).length c15)) w0.heap.size P0_ (.slice A15 (l0 ++ [(⟨a1, a2⟩ : S53)]).length c15) (l0 ++ [(⟨a1, a2⟩ : S53)]) := Kd.R_mono (Kd.R_far (p := ⟨g, 1, none⟩) (Kd.R_types HO1.out BK1.out (by decide)) (fun _ hk => hk.2) _) (fun _ hk => hk.1)
       rw [show (l0 ++ [(⟨a1, a2⟩ : S53)]).length = l0.length + 1 by simp] at hR
       refine bodyPost_end (v := .tuple #[]) (by simp [results, Try.results36, go_sem]) rfl ⟨rfl, ?_⟩
       exact ⟨⟨below_set HB1.out HG0.out, HG0.out, _, blk_put BK1.out 1 _ rfl, hR⟩, ⟨by simpa [World.setCell] using HK1.out.1, fun i hi hn => (Below.heap_setCell w15 ⟨g, 1, none⟩ _ i (fun e => hn (.inr e))).trans (HK1.out.2 i hi hn)⟩⟩
     · rw [if_neg c9] at H
       cases H
def line_bit.f (t : Int) (l : List S53) (v : Int) : Option (List S53) := (line_put.f l (wrap64 (v * 2)) t).bind fun l1 => (line_put.f l1 (wrap64 (wrap64 (v * 2) + 1)) (wrap64 (2 * t))).bind fun l2 => line_put.f l2 (wrap64 (v * 2)) t
set_option maxHeartbeats 8000000 in
set_option maxRecDepth 100000 in
theorem line_bit.calls (P0_ : Nat → Prop) (g : Nat) (t : Int) (l0 : List (S53)) (a1 : Int) (r : List (S53)) (w0 w : World) (hL : LineAt w0 w g P0_ t l0) (hf : ∀ k, w.heap.size ≤ k → P0_ k) (h : line_bit.f t l0 a1 = some r) :
  Calls Try.prog 50 #[.pointer (some ⟨g, 0, none⟩), .int .i64 a1] w fun e w' => e = .returned (.tuple #[]) ∧ LineAt w0 w' g P0_ t r ∧ Kept w w' (fun k_ => P0_ k_ ∨ k_ = g) := by
 have hu66 := Try.underlying66
 have HL0 := aK hL
 have HK0 := aK (Kept.refl w (fun k_ => P0_ k_ ∨ k_ = g))
 have HF0 := aK hf
 have ha0 : w.cell? ⟨g, 0, none⟩ = some (.int .i64 t) := by
   obtain ⟨_, _, v, hbk, _⟩ := hL
   exact (blk_cell hbk 0).trans rfl
 have hb0 : w.frozen? ⟨g, 0, none⟩ = false := by
   obtain ⟨_, _, v, hbk, _⟩ := hL
   exact blk_frozen hbk 0
 clear hL hf
 unfold line_bit.f at h
 obtain ⟨l1, h1, h⟩ := Option.bind_eq_some_iff.1 h
 obtain ⟨l2, h2, h3⟩ := Option.bind_eq_some_iff.1 h
 have H1 := aK h1
 have H2 := aK h2
 have H3 := aK h3
 clear h h1 h2 h3
 go_enter Try.func50, Try.ntmps50
 go_wp2_with (first | ((with_reducible refine gate_dst (N := 11) rfl ?_); refine goesL_ (some 11) rfl rfl Try.func36 (by kernel_rfl) rfl #[.pointer (some ⟨g, 0, none⟩), .int .i64 (wrap64 (a1 * 2)), .int .i64 t] rfl (by (try simp only [List.map_toArray, List.map_cons, List.map_nil]); first | done | rfl) ?_; (refine (line_put.calls P0_ g t _ ((wrap64 (a1 * 2))) (t) _ w0 _ HL0.out HF0.out H1.out).mono ?_); rintro e w1 ⟨rfl, hL_, hk_⟩; refine ⟨_, rfl, ?_⟩; have HL1 := aK hL_; have HK1 := aK (HK0.out.then_ hk_ (fun k hk => .inl hk)); have HF1 := aK (fun k (h : w1.heap.size ≤ k) => HF0.out k (Nat.le_trans hk_.1 h)); obtain ⟨_, _, v_, hbk_, _⟩ := hL_; have ha1 : w1.cell? ⟨g, 0, none⟩ = some (.int .i64 t) := (blk_cell hbk_ 0).trans rfl; have hb1 := blk_frozen hbk_ 0; clear hk_ hbk_) | ((with_reducible refine gate_dst (N := 21) rfl ?_); refine goesL_ (some 21) rfl rfl Try.func36 (by kernel_rfl) rfl #[.pointer (some ⟨g, 0, none⟩), .int .i64 (wrap64 (wrap64 (a1 * 2) + 1)), .int .i64 (wrap64 (2 * t))] rfl (by (try simp only [List.map_toArray, List.map_cons, List.map_nil]); first | done | rfl) ?_; (refine (line_put.calls P0_ g t _ ((wrap64 (wrap64 (a1 * 2) + 1))) ((wrap64 (2 * t))) _ w0 _ HL1.out HF1.out H2.out).mono ?_); rintro e w2 ⟨rfl, hL_, hk_⟩; refine ⟨_, rfl, ?_⟩; have HL2 := aK hL_; have HK2 := aK (HK1.out.then_ hk_ (fun k hk => .inl hk)); have HF2 := aK (fun k (h : w2.heap.size ≤ k) => HF1.out k (Nat.le_trans hk_.1 h)); obtain ⟨_, _, v_, hbk_, _⟩ := hL_; have ha2 : w2.cell? ⟨g, 0, none⟩ = some (.int .i64 t) := (blk_cell hbk_ 0).trans rfl; have hb2 := blk_frozen hbk_ 0; clear hk_ hbk_) | ((with_reducible refine gate_dst (N := 29) rfl ?_); refine goesL_ (some 29) rfl rfl Try.func36 (by kernel_rfl) rfl #[.pointer (some ⟨g, 0, none⟩), .int .i64 (wrap64 (a1 * 2)), .int .i64 t] rfl (by (try simp only [List.map_toArray, List.map_cons, List.map_nil]); first | done | rfl) ?_; (refine (line_put.calls P0_ g t _ ((wrap64 (a1 * 2))) (t) _ w0 _ HL2.out HF2.out H3.out).mono ?_); rintro e w3 ⟨rfl, hL_, hk_⟩; refine ⟨_, rfl, ?_⟩; have HL3 := aK hL_; have HK3 := aK (HK2.out.then_ hk_ (fun k hk => .inl hk)); have HF3 := aK (fun k (h : w3.heap.size ≤ k) => HF2.out k (Nat.le_trans hk_.1 h)); obtain ⟨_, _, v_, hbk_, _⟩ := hL_; have ha3 : w3.cell? ⟨g, 0, none⟩ = some (.int .i64 t) := (blk_cell hbk_ 0).trans rfl; have hb3 := blk_frozen hbk_ 0; clear hk_ hbk_))
 refine bodyPost_end (v := .tuple #[]) (by simp [results, Try.results50, go_sem]) rfl ⟨rfl, ?_⟩
 exact ⟨HL3.out, HK3.out⟩
/-- The bits of a byte, from the highest on, then the acknowledge bit: n are left. -/
def line_bytes.g (t : Int) (b ack : Int) : Nat → List S53 → Option (List S53)
 | 0, l => line_bit.f t l ack
 | n + 1, l => (line_bit.f t l (wrap64 (Go.bits .and .u8 (b / 2 ^ n) 1))).bind fun l1 => line_bytes.g t b ack n l1
def line_bytes.f (t : Int) (l : List S53) (b ack : Int) : Option (List S53) := line_bytes.g t b ack 8 l
set_option maxHeartbeats 8000000 in
set_option maxRecDepth 100000 in
theorem line_bytes.calls (P0_ : Nat → Prop) (g : Nat) (t : Int) (l0 : List (S53)) (a1 a2 : Int) (r : List (S53)) (w0 w : World) (hL : LineAt w0 w g P0_ t l0) (hf : ∀ k, w.heap.size ≤ k → P0_ k) (h : line_bytes.f t l0 a1 a2 = some r) :
  Calls Try.prog 47 #[.pointer (some ⟨g, 0, none⟩), .int .u8 a1, .int .i64 a2] w fun e w' => e = .returned (.tuple #[]) ∧ LineAt w0 w' g P0_ t r ∧ Kept w w' (fun k_ => P0_ k_ ∨ k_ = g) := by
 have HL0 := aK hL
 have HF0 := aK hf
 have H0 := aK h
 clear hL hf h
 go_enter Try.func47, Try.ntmps47
 go_wp2
 go_loopg [6] 8 (fun n v6 w' => ∃ l : List S53, n ≤ 8 ∧ v6 = .int .i64 ((n : Int) - 1) ∧ Aside0 (line_bytes.g t a1 a2 n l = some r) ∧ Aside0 (LineAt w0 w' g P0_ t l) ∧ Aside0 (Kept w w' (fun k_ => P0_ k_ ∨ k_ = g)))
 case atStart => exact ⟨l0, Nat.le_refl _, rfl, H0, HL0, ⟨Kept.refl _ _⟩⟩
 case round =>
  clear H0 HL0
  obtain ⟨l, hn, rfl, H, HL1, HK1⟩ := hrel
  have HF1 := aK (fun k (h : wr.heap.size ≤ k) => HF0.out k (Nat.le_trans HK1.out.1 h))
  cases gk with
  | zero =>
   have H2 := aK (show line_bit.f t l a2 = some r from H.out)
   have e1 : (((0 : Nat) : Int) - 1) = -1 := rfl
   simp only [e1]
   go_wp2_with ((with_reducible refine gate_dst (N := 20) rfl ?_); refine goesL_ (some 20) rfl rfl Try.func50 (by kernel_rfl) rfl #[.pointer (some ⟨g, 0, none⟩), .int .i64 a2] rfl (by (try simp only [List.map_toArray, List.map_cons, List.map_nil]); first | done | rfl) ?_; (refine (line_bit.calls P0_ g t _ (a2) _ w0 _ HL1.out HF1.out H2.out).mono ?_); rintro e w2 ⟨rfl, hL_, hk_⟩; refine ⟨_, rfl, ?_⟩; have HL2 := aK hL_; have HK2 := aK (HK1.out.then_ hk_ (fun k hk => .inl hk)); have HF2 := aK (fun k (h : w2.heap.size ≤ k) => HF1.out k (Nat.le_trans hk_.1 h)); obtain ⟨_, _, v_, hbk_, _⟩ := hL_; have ha2 : w2.cell? ⟨g, 0, none⟩ = some (.int .i64 t) := (blk_cell hbk_ 0).trans rfl; have hb2 := blk_frozen hbk_ 0; clear hk_ hbk_)
   refine bodyPost_end (v := .tuple #[]) (by simp [results, Try.results47, go_sem]) rfl ⟨rfl, ?_⟩
   exact ⟨HL2.out, HK2.out⟩
  | succ n =>
   obtain ⟨l1, h1, h2⟩ := Option.bind_eq_some_iff.1 (show ((line_bit.f t l (wrap64 (Go.bits .and .u8 (a1 / 2 ^ n) 1))).bind fun l1 => line_bytes.g t a1 a2 n l1) = some r from H.out)
   have H2 := aK h1
   have H3 := aK h2
   clear h1 h2 H
   have e1 : (((n + 1 : Nat) : Int) - 1) = (n : Int) := by omega
   have e2 : decide (0 ≤ (n : Int)) = true := decide_eq_true (by omega)
   have e3 : decide ((n : Int) < 0) = false := decide_eq_false (by omega)
   have e4 : wrap64 ((n : Int) - 1) = (n : Int) - 1 := by unfold wrap64; omega
   have e5 : IntKind.i64.wrap ((n : Int) - 1) = (n : Int) - 1 := (i64_w _).trans e4
   simp only [e1]
   go_wp2_with ((with_reducible refine gate_dst (N := 17) rfl ?_); refine goesL_ (some 17) rfl rfl Try.func50 (by kernel_rfl) rfl #[.pointer (some ⟨g, 0, none⟩), .int .i64 (wrap64 (Go.bits .and .u8 (a1 / 2 ^ n) 1))] rfl (by (try simp only [List.map_toArray, List.map_cons, List.map_nil]); first | done | rfl) ?_; (refine (line_bit.calls P0_ g t _ ((wrap64 (Go.bits .and .u8 (a1 / 2 ^ n) 1))) _ w0 _ HL1.out HF1.out H2.out).mono ?_); rintro e w2 ⟨rfl, hL_, hk_⟩; refine ⟨_, rfl, ?_⟩; have HL2 := aK hL_; have HK2 := aK (HK1.out.then_ hk_ (fun k hk => .inl hk)); have HF2 := aK (fun k (h : w2.heap.size ≤ k) => HF1.out k (Nat.le_trans hk_.1 h)); obtain ⟨_, _, v_, hbk_, _⟩ := hL_; have ha2 : w2.cell? ⟨g, 0, none⟩ = some (.int .i64 t) := (blk_cell hbk_ 0).trans rfl; have hb2 := blk_frozen hbk_ 0; clear hk_ hbk_)
   go_roundg n
   case rel => exact ⟨l1, by omega, rfl, H3, HL2, HK2⟩
   case measure => omega
theorem LineAt.below {w0 w w1 : World} {g : Nat} {P : Nat → Prop} {t : Int} {l : List S53} (h : LineAt w0 w g P t l) (hb : Below w.heap.size w w1) : LineAt w0 w1 g P t l := by
  obtain ⟨h1, h2, v, h3, h4⟩ := h
  exact ⟨below_then h1 (below_size h1) hb, h2, v, blk_below h3 hb, Kd.R_below h4 hb⟩
theorem LineAt.mono {w0 w : World} {g : Nat} {P P' : Nat → Prop} {t : Int} {l : List S53} (h : LineAt w0 w g P t l) (hp : ∀ k, P k → P' k) : LineAt w0 w g P' t l := by
  obtain ⟨h1, h2, v, h3, h4⟩ := h
  exact ⟨h1, h2, v, h3, Kd.R_mono h4 hp⟩
/-- A line is not where another kind of block lies. -/
theorem LineAt.away {w0 w : World} {g b : Nat} {P : Nat → Prop} {t : Int} {l : List S53} {cs : Array Value} {q : Nat} {fz : Nat × Nat} (h : LineAt w0 w g P t l) (hb : w.heap[b]? = some (.cells cs q fz)) (hq : ∀ p, p ∈ 53 :: (k53 : Kd S53).E → p ≠ q) : LineAt w0 w g (fun k => P k ∧ k ≠ b) t l := by
  obtain ⟨h1, h2, v, h3, h4⟩ := h
  refine ⟨h1, h2, v, h3, Kd.R_mono (Kd.R_bound h4) (fun k hk => ⟨hk.1, ?_⟩)⟩
  obtain ⟨_, _, _, q', hq', cells', hc⟩ := hk
  rintro rfl
  rw [hb] at hc
  simp only [Option.some.injEq, Obj.cells.injEq] at hc
  exact hq q' hq' hc.2.1.symm
theorem LineAt.lt {w0 w : World} {g : Nat} {P : Nat → Prop} {t : Int} {l : List S53} (h : LineAt w0 w g P t l) : g < w.heap.size := by
  obtain ⟨h1, h2, v, h3, h4⟩ := h
  exact blk_lt h3
theorem LineAt.cell {w0 w : World} {g : Nat} {P : Nat → Prop} {t : Int} {l : List S53} (h : LineAt w0 w g P t l) : w.cell? ⟨g, 0, none⟩ = some (.int .i64 t) ∧ w.frozen? ⟨g, 0, none⟩ = false := by
  obtain ⟨h1, h2, v, h3, h4⟩ := h
  exact ⟨(blk_cell h3 0).trans rfl, blk_frozen h3 0⟩
theorem blk_cellq {w : World} {b : Nat} {cs : Array Value} {q : Nat} {fz : Nat × Nat} (h : w.heap[b]? = some (.cells cs q fz)) (j : Nat) : w.cell? ⟨b, j, none⟩ = cs[j]? := by
  simp [World.cell?, h]
/-- The bytes of an item from a place on: n are left. -/
def line_item.g (t value : Int) (data : ByteArray) : Nat → Nat → List S53 → Option (List S53)
 | 0, _, l => some l
 | n + 1, i, l => (line_bytes.f t l (bt data (i : Int)) (if n = 0 ∧ Go.bits .and .i64 value 1 = 1 then 1 else 0)).bind fun l1 => line_item.g t value data n (i + 1) l1
def line_item.a (t : Int) (l : List S53) (gap : Int) (first : Bool) : Option (List S53) := if first = true then line_put.f l 3 gap else (line_put.f l 0 gap).bind fun l1 => (line_put.f l1 2 t).bind fun l2 => line_put.f l2 3 t
def line_item.z (t : Int) (l : List S53) (aux : Int) : Option (List S53) := if aux = 1 then (line_put.f l 0 t).bind fun l1 => (line_put.f l1 1 t).bind fun l2 => line_put.f l2 3 (wrap64 (4 * t)) else some l
def line_item.f (t : Int) (l : List S53) (gap value aux : Int) (data : ByteArray) (fault : Int) (first : Bool) : Option (List S53) :=
  if data.size ≤ 4398046510080 then (line_item.a t l gap first).bind fun l1 => (line_put.f l1 1 t).bind fun l2 => (line_put.f l2 0 t).bind fun l3 => (line_bytes.f t l3 (value % 256) (if fault = 10 then 1 else 0)).bind fun l4 => (line_item.g t value data data.size 0 l4).bind fun l5 => line_item.z t l5 aux else none
set_option maxHeartbeats 16000000 in
set_option maxRecDepth 100000 in
theorem line_item.calls (P0_ : Nat → Prop) (g : Nat) (t : Int) (l0 : List (S53)) (x0 x1 x2 : Int) (x3 : ByteArray) (x4 : Int) (fi : Bool) (r : List (S53)) (w0 w : World) (hL : LineAt w0 w g P0_ t l0) (hf : ∀ k, w.heap.size ≤ k → P0_ k) (h : line_item.f t l0 x0 x1 x2 x3 x4 fi = some r) :
  Calls Try.prog 37 #[.pointer (some ⟨g, 0, none⟩), .agg #[.int .i64 x0, .int .i64 x1, .int .i64 x2, .string x3, .int .i64 x4], .bool fi] w fun e w' => e = .returned (.tuple #[]) ∧ LineAt w0 w' g P0_ t r ∧ Kept w w' (fun k_ => P0_ k_ ∨ k_ = g) := by
 have hu66 := Try.underlying66
 have hu49 := Try.underlying49
 have HS := aK (show x3.size ≤ 4398046510080 from by
   unfold line_item.f at h
   by_cases c : x3.size ≤ 4398046510080
   · exact c
   · rw [if_neg c] at h
     cases h)
 unfold line_item.f at h
 rw [if_pos HS.out] at h
 obtain ⟨l3, h3, h⟩ := Option.bind_eq_some_iff.1 h
 obtain ⟨l4, h4, h⟩ := Option.bind_eq_some_iff.1 h
 obtain ⟨l5, h5, h⟩ := Option.bind_eq_some_iff.1 h
 obtain ⟨l6, h6, h⟩ := Option.bind_eq_some_iff.1 h
 obtain ⟨l7, h7, hz⟩ := Option.bind_eq_some_iff.1 h
 clear h
 have HA := aK h3
 have H4 := aK h4
 have H5 := aK h5
 have HI := aK h6
 have H7 := aK h7
 have HZ := aK hz
 clear h3 h4 h5 h6 h7 hz
 have hx := blk_new w (.cells #[.int .i64 x0, .int .i64 x1, .int .i64 x2, .string x3, .int .i64 x4] 49 (0, 0))
 have HL := aK ((hL.below (below_alloc (Below.refl _ _) (.cells #[.int .i64 x0, .int .i64 x1, .int .i64 x2, .string x3, .int .i64 x4] 49 (0, 0)))).away hx (by decide))
 have HK := aK ((Kept.refl w (fun k_ => P0_ k_ ∨ k_ = g)).alloc (.cells #[.int .i64 x0, .int .i64 x1, .int .i64 x2, .string x3, .int .i64 x4] 49 (0, 0)))
 have HF : Aside0 (∀ k, (w.alloc (.cells #[.int .i64 x0, .int .i64 x1, .int .i64 x2, .string x3, .int .i64 x4] 49 (0, 0))).heap.size ≤ k → P0_ k ∧ k ≠ w.heap.size) := ⟨fun k hk => by
   have e : (w.alloc (.cells #[.int .i64 x0, .int .i64 x1, .int .i64 x2, .string x3, .int .i64 x4] 49 (0, 0))).heap.size = w.heap.size + 1 := by simp
   exact ⟨hf k (by omega), by omega⟩⟩
 have HNE := aK (show ¬ w.heap.size = g from by have := hL.lt; omega)
 have HX := aK hx
 clear hx
 go_enter Try.func37, Try.ntmps37
 go_upto_region 1 with (fail)
 generalize (w.alloc (.cells #[.int .i64 x0, .int .i64 x1, .int .i64 x2, .string x3, .int .i64 x4] 49 (0, 0))) = wb at HL HK HF HX ⊢
 generalize w.heap.size = b0 at HL HF HX HNE ⊢
 rename_i Q1 K1 k1 K2 k2
 have hJ : ∀ (wj : World) (u9 u10 u11 u12 u13 u14 u15 u16 u17 u18 u19 u20 u21 u22 u23 u24 u25 u26 u27 u28 u29 : Value), Aside0 (LineAt w0 wj g (fun k => P0_ k ∧ k ≠ b0) t l3) → Aside0 (Kept w wj (fun k_ => P0_ k_ ∨ k_ = g)) → Aside0 (wj.heap[b0]? = some (.cells #[.int .i64 x0, .int .i64 x1, .int .i64 x2, .string x3, .int .i64 x4] 49 (0, 0))) → Aside0 (∀ k, wj.heap.size ≤ k → P0_ k ∧ k ≠ b0) → K1 { tmps := #[.pointer (some ⟨g, 0, none⟩), .agg #[.int .i64 x0, .int .i64 x1, .int .i64 x2, .string x3, .int .i64 x4], .bool fi, undef, .pointer (some ⟨b0, 0, none⟩), undef, undef, undef, undef, u9, u10, u11, u12, u13, u14, u15, u16, u17, u18, u19, u20, u21, u22, u23, u24, u25, u26, u27, u28, u29, undef, undef, undef, undef, undef, undef, undef, undef, undef, undef, undef, undef, undef, undef, undef, undef, undef, undef, undef, undef, undef, undef, undef, undef, undef, undef, undef, undef, undef, undef, undef, undef, undef, undef, undef, undef, undef, undef, undef, undef, undef, undef, undef, undef, undef, undef, undef, undef, undef, undef, undef, undef, undef, undef, undef, undef, undef, undef, undef, undef, undef, undef, undef, undef, undef, undef, undef, undef, undef], defers := [] } wj := by
  clear HL HK HX HF k2
  intro wj u9 u10 u11 u12 u13 u14 u15 u16 u17 u18 u19 u20 u21 u22 u23 u24 u25 u26 u27 u28 u29 HL HK HX HF
  refine k1 _ _ ?_
  obtain ⟨ha, hb⟩ := HL.out.cell
  have hc0 : wj.cell? ⟨b0, 0, none⟩ = some (.int .i64 x0) := (blk_cell HX.out 0).trans rfl
  have hc1 : wj.cell? ⟨b0, 1, none⟩ = some (.int .i64 x1) := (blk_cell HX.out 1).trans rfl
  have hc2 : wj.cell? ⟨b0, 2, none⟩ = some (.int .i64 x2) := (blk_cell HX.out 2).trans rfl
  have hc3 : wj.cell? ⟨b0, 3, none⟩ = some (.string x3) := (blk_cell HX.out 3).trans rfl
  have hc4 : wj.cell? ⟨b0, 4, none⟩ = some (.int .i64 x4) := (blk_cell HX.out 4).trans rfl
  have hd0 := blk_frozen HX.out 0
  have hd1 := blk_frozen HX.out 1
  have hd2 := blk_frozen HX.out 2
  have hd3 := blk_frozen HX.out 3
  have hd4 := blk_frozen HX.out 4
  go_upto_region 9 with (first | ((with_reducible refine gate_dst (N := 35) rfl ?_); refine goesL_ (some 35) rfl rfl Try.func36 (by kernel_rfl) rfl #[.pointer (some ⟨g, 0, none⟩), .int .i64 1, .int .i64 t] rfl (by (try simp only [List.map_toArray, List.map_cons, List.map_nil]); first | done | rfl) ?_; (refine (line_put.calls (fun k => P0_ k ∧ k ≠ b0) g t _ (1) (t) _ w0 _ HL.out HF.out H4.out).mono ?_); rintro e w1 ⟨rfl, hL_, hk_⟩; refine ⟨_, rfl, ?_⟩; have HK_ := HK; have HF_ := HF; have HX_ := HX; clear HL HK HF HX ha hb hc0 hc1 hc2 hc3 hc4 hd0 hd1 hd2 hd3 hd4; have HL := aK hL_; have HK := aK (HK_.out.then_ hk_ (fun k hk => hk.elim (fun h => .inl (.inl h.1)) (fun e => .inl (.inr e)))); have HF := aK (fun k (h : w1.heap.size ≤ k) => HF_.out k (Nat.le_trans hk_.1 h)); have HX := aK (blk_kept HX_.out hk_ (fun h => h.elim (fun h => h.2 rfl) HNE.out)); obtain ⟨ha, hb⟩ := hL_.cell; have hc0 := (blk_cell HX.out 0).trans rfl; have hc1 := (blk_cell HX.out 1).trans rfl; have hc2 := (blk_cell HX.out 2).trans rfl; have hc3 := (blk_cell HX.out 3).trans rfl; have hc4 := (blk_cell HX.out 4).trans rfl; have hd0 := blk_frozen HX.out 0; have hd1 := blk_frozen HX.out 1; have hd2 := blk_frozen HX.out 2; have hd3 := blk_frozen HX.out 3; have hd4 := blk_frozen HX.out 4; clear hk_ hL_ HK_ HF_ HX_) | ((with_reducible refine gate_dst (N := 41) rfl ?_); refine goesL_ (some 41) rfl rfl Try.func36 (by kernel_rfl) rfl #[.pointer (some ⟨g, 0, none⟩), .int .i64 0, .int .i64 t] rfl (by (try simp only [List.map_toArray, List.map_cons, List.map_nil]); first | done | rfl) ?_; (refine (line_put.calls (fun k => P0_ k ∧ k ≠ b0) g t _ (0) (t) _ w0 _ HL.out HF.out H5.out).mono ?_); rintro e w1 ⟨rfl, hL_, hk_⟩; refine ⟨_, rfl, ?_⟩; have HK_ := HK; have HF_ := HF; have HX_ := HX; clear HL HK HF HX ha hb hc0 hc1 hc2 hc3 hc4 hd0 hd1 hd2 hd3 hd4; have HL := aK hL_; have HK := aK (HK_.out.then_ hk_ (fun k hk => hk.elim (fun h => .inl (.inl h.1)) (fun e => .inl (.inr e)))); have HF := aK (fun k (h : w1.heap.size ≤ k) => HF_.out k (Nat.le_trans hk_.1 h)); have HX := aK (blk_kept HX_.out hk_ (fun h => h.elim (fun h => h.2 rfl) HNE.out)); obtain ⟨ha, hb⟩ := hL_.cell; have hc0 := (blk_cell HX.out 0).trans rfl; have hc1 := (blk_cell HX.out 1).trans rfl; have hc2 := (blk_cell HX.out 2).trans rfl; have hc3 := (blk_cell HX.out 3).trans rfl; have hc4 := (blk_cell HX.out 4).trans rfl; have hd0 := blk_frozen HX.out 0; have hd1 := blk_frozen HX.out 1; have hd2 := blk_frozen HX.out 2; have hd3 := blk_frozen HX.out 3; have hd4 := blk_frozen HX.out 4; clear hk_ hL_ HK_ HF_ HX_))
  rename_i K4 k4 K3 k3
  have hJ2 : ∀ (wj : World) (ack : Int) (u9 u10 u11 u12 u13 u14 u15 u16 u17 u18 u19 u20 u21 u22 u23 u24 u25 u26 u27 u28 u29 u30 u31 u32 u33 u34 u35 u36 u37 u38 u39 u40 u41 u42 u43 u44 : Value), ack = (if x4 = 10 then 1 else 0) → Aside0 (LineAt w0 wj g (fun k => P0_ k ∧ k ≠ b0) t l5) → Aside0 (Kept w wj (fun k_ => P0_ k_ ∨ k_ = g)) → Aside0 (wj.heap[b0]? = some (.cells #[.int .i64 x0, .int .i64 x1, .int .i64 x2, .string x3, .int .i64 x4] 49 (0, 0))) → Aside0 (∀ k, wj.heap.size ≤ k → P0_ k ∧ k ≠ b0) → K4 { tmps := #[.pointer (some ⟨g, 0, none⟩), .agg #[.int .i64 x0, .int .i64 x1, .int .i64 x2, .string x3, .int .i64 x4], .bool fi, undef, .pointer (some ⟨b0, 0, none⟩), undef, .int .i64 ack, undef, undef, u9, u10, u11, u12, u13, u14, u15, u16, u17, u18, u19, u20, u21, u22, u23, u24, u25, u26, u27, u28, u29, u30, u31, u32, u33, u34, u35, u36, u37, u38, u39, u40, u41, u42, u43, u44, undef, undef, undef, undef, undef, undef, undef, undef, undef, undef, undef, undef, undef, undef, undef, undef, undef, undef, undef, undef, undef, undef, undef, undef, undef, undef, undef, undef, undef, undef, undef, undef, undef, undef, undef, undef, undef, undef, undef, undef, undef, undef, undef, undef, undef, undef, undef, undef, undef, undef, undef, undef, undef, undef], defers := [] } wj := by
   clear HL HK HX HF k3 ha hb hc0 hc1 hc2 hc3 hc4 hd0 hd1 hd2 hd3 hd4
   intro wj ack u9 u10 u11 u12 u13 u14 u15 u16 u17 u18 u19 u20 u21 u22 u23 u24 u25 u26 u27 u28 u29 u30 u31 u32 u33 u34 u35 u36 u37 u38 u39 u40 u41 u42 u43 u44 hack HL HK HX HF
   have H6 := aK (show line_bytes.f t l5 (x1 % 256) ack = some l6 from by rw [hack]; exact HI.out)
   clear hack
   refine k4 _ _ ?_
   have hconv := fun W => Lib.run_convert_string_bytes (P := Try.prog) W 9 75 5 x3 Try.underlying9 Try.underlying75 Try.underlying5
   obtain ⟨ha, hb⟩ := HL.out.cell
   have hc0 : wj.cell? ⟨b0, 0, none⟩ = some (.int .i64 x0) := (blk_cell HX.out 0).trans rfl
   have hc1 : wj.cell? ⟨b0, 1, none⟩ = some (.int .i64 x1) := (blk_cell HX.out 1).trans rfl
   have hc2 : wj.cell? ⟨b0, 2, none⟩ = some (.int .i64 x2) := (blk_cell HX.out 2).trans rfl
   have hc3 : wj.cell? ⟨b0, 3, none⟩ = some (.string x3) := (blk_cell HX.out 3).trans rfl
   have hc4 : wj.cell? ⟨b0, 4, none⟩ = some (.int .i64 x4) := (blk_cell HX.out 4).trans rfl
   have hd0 := blk_frozen HX.out 0
   have hd1 := blk_frozen HX.out 1
   have hd2 := blk_frozen HX.out 2
   have hd3 := blk_frozen HX.out 3
   have hd4 := blk_frozen HX.out 4
   go_wp2_with ((with_reducible refine gate_dst (N := 50) rfl ?_); refine goesL_ (some 50) rfl rfl Try.func47 (by kernel_rfl) rfl #[.pointer (some ⟨g, 0, none⟩), .int .u8 (x1 % 256), .int .i64 ack] rfl (by (try simp only [List.map_toArray, List.map_cons, List.map_nil]); first | done | rfl) ?_; (refine (line_bytes.calls (fun k => P0_ k ∧ k ≠ b0) g t _ ((x1 % 256)) (ack) _ w0 _ HL.out HF.out H6.out).mono ?_); rintro e w1 ⟨rfl, hL_, hk_⟩; refine ⟨_, rfl, ?_⟩; have HK_ := HK; have HF_ := HF; have HX_ := HX; clear HL HK HF HX ha hb hc0 hc1 hc2 hc3 hc4 hd0 hd1 hd2 hd3 hd4; have HL := aK hL_; have HK := aK (HK_.out.then_ hk_ (fun k hk => hk.elim (fun h => .inl (.inl h.1)) (fun e => .inl (.inr e)))); have HF := aK (fun k (h : w1.heap.size ≤ k) => HF_.out k (Nat.le_trans hk_.1 h)); have HX := aK (blk_kept HX_.out hk_ (fun h => h.elim (fun h => h.2 rfl) HNE.out)); obtain ⟨ha, hb⟩ := hL_.cell; have hc0 := (blk_cell HX.out 0).trans rfl; have hc1 := (blk_cell HX.out 1).trans rfl; have hc2 := (blk_cell HX.out 2).trans rfl; have hc3 := (blk_cell HX.out 3).trans rfl; have hc4 := (blk_cell HX.out 4).trans rfl; have hd0 := blk_frozen HX.out 0; have hd1 := blk_frozen HX.out 1; have hd2 := blk_frozen HX.out 2; have hd3 := blk_frozen HX.out 3; have hd4 := blk_frozen HX.out 4; clear hk_ hL_ HK_ HF_ HX_)
   have hby := Lib.bytesWorld_at_new w1 5 x3
   have hbl := Lib.bytesWorld_below w1 5 x3
   have hcs : ∀ j : Nat, j < x3.size → (Lib.bytesCells w1 5 x3)[j]? = some (.int .u8 (bt x3 (j : Int))) := fun j hj => by
     rw [← blk_cellq hby j, Lib.bytesWorld_cell w1 5 x3 j hj, ← bt_at x3 (j : Int) (by simpa using hj)]
     simp [List.getD, hj]
     rfl
   have HL2 := aK ((HL.out.below hbl).away hby (by decide))
   have HK2 := aK (HK.out.below hbl)
   have HX2 := aK (blk_below HX.out hbl)
   have HF2 : Aside0 (∀ k, (Lib.bytesWorld w1 5 x3).heap.size ≤ k → (P0_ k ∧ k ≠ b0) ∧ k ≠ w1.heap.size) := ⟨fun k hk => by
     have e := Lib.bytesWorld_size w1 5 x3
     exact ⟨HF.out k (by omega), by omega⟩⟩
   have HNE1 := aK (show ¬ w1.heap.size = g from by have := HL.out.lt; omega)
   have HY := aK hby
   have HCS := aK hcs
   clear HL HK HX HF ha hb hc0 hc1 hc2 hc3 hc4 hd0 hd1 hd2 hd3 hd4 hby hbl hcs hconv
   generalize Lib.bytesWorld w1 5 x3 = wl at HL2 HK2 HX2 HF2 HY ⊢
   generalize grownCap w1 x3.size 0 5 = cp
   generalize ((Lib.bytesCells w1 5 x3).size, (Lib.bytesCells w1 5 x3).size + 1) = fz at HY
   generalize Lib.bytesCells w1 5 x3 = cs at HY HCS
   generalize w1.heap.size = b1 at HL2 HF2 HNE1 HY ⊢
   go_loopg [55] x3.size (fun n v55 w' => ∃ (l : List S53) (i : Nat), i + n = x3.size ∧ v55 = .int .i64 (i : Int) ∧ Aside0 (line_item.g t x1 x3 n i l = some l7) ∧ Aside0 (LineAt w0 w' g (fun k => (P0_ k ∧ k ≠ b0) ∧ k ≠ b1) t l) ∧ Aside0 (Kept w w' (fun k_ => P0_ k_ ∨ k_ = g)) ∧ Aside0 (w'.heap[b0]? = some (.cells #[.int .i64 x0, .int .i64 x1, .int .i64 x2, .string x3, .int .i64 x4] 49 (0, 0))) ∧ Aside0 (w'.heap[b1]? = some (.cells cs 5 fz)) ∧ Aside0 (∀ k, w'.heap.size ≤ k → (P0_ k ∧ k ≠ b0) ∧ k ≠ b1))
   case atStart => exact ⟨l6, 0, Nat.zero_add _, rfl, H7, HL2, HK2, HX2, HY, HF2⟩
   case round =>
    clear H7 HL2 HK2 HX2 HY HF2
    obtain ⟨l, i, hi, rfl, HR, HL, HK, HX, HY, HF⟩ := hrel
    obtain ⟨ha, hb⟩ := HL.out.cell
    have hc0 : wr.cell? ⟨b0, 0, none⟩ = some (.int .i64 x0) := (blk_cell HX.out 0).trans rfl
    have hc1 : wr.cell? ⟨b0, 1, none⟩ = some (.int .i64 x1) := (blk_cell HX.out 1).trans rfl
    have hc2 : wr.cell? ⟨b0, 2, none⟩ = some (.int .i64 x2) := (blk_cell HX.out 2).trans rfl
    have hc3 : wr.cell? ⟨b0, 3, none⟩ = some (.string x3) := (blk_cell HX.out 3).trans rfl
    have hc4 : wr.cell? ⟨b0, 4, none⟩ = some (.int .i64 x4) := (blk_cell HX.out 4).trans rfl
    have hd0 := blk_frozen HX.out 0
    have hd1 := blk_frozen HX.out 1
    have hd2 := blk_frozen HX.out 2
    have hd3 := blk_frozen HX.out 3
    have hd4 := blk_frozen HX.out 4
    cases gk with
    | zero =>
     have e0 : l = l7 := Option.some.inj HR.out
     subst e0
     have f3 : decide ((i : Int) < (x3.size : Int)) = false := decide_eq_false (by omega)
     by_cases hau : x2 = 1
     · have f2 : (x2 == 1) = true := beq_iff_eq.mpr hau
       have hz := (if_pos hau).symm.trans HZ.out
       clear hau HZ
       obtain ⟨l8, h8, h10⟩ := Option.bind_eq_some_iff.1 hz
       obtain ⟨l9, h9, h10⟩ := Option.bind_eq_some_iff.1 h10
       have H8 := aK h8
       have H9 := aK h9
       have H10 := aK h10
       clear h8 h9 h10 hz
       go_wp2_with (first | ((with_reducible refine gate_dst (N := 85) rfl ?_); refine goesL_ (some 85) rfl rfl Try.func36 (by kernel_rfl) rfl #[.pointer (some ⟨g, 0, none⟩), .int .i64 0, .int .i64 t] rfl (by (try simp only [List.map_toArray, List.map_cons, List.map_nil]); first | done | rfl) ?_; (refine (line_put.calls (fun k => (P0_ k ∧ k ≠ b0) ∧ k ≠ b1) g t _ (0) (t) _ w0 _ HL.out HF.out H8.out).mono ?_); rintro e w1 ⟨rfl, hL_, hk_⟩; refine ⟨_, rfl, ?_⟩; have HK_ := HK; have HF_ := HF; have HX_ := HX; clear HL HK HF HX ha hb hc0 hc1 hc2 hc3 hc4 hd0 hd1 hd2 hd3 hd4; have HL := aK hL_; have HK := aK (HK_.out.then_ hk_ (fun k hk => hk.elim (fun h => .inl (.inl h.1.1)) (fun e => .inl (.inr e)))); have HF := aK (fun k (h : w1.heap.size ≤ k) => HF_.out k (Nat.le_trans hk_.1 h)); have HX := aK (blk_kept HX_.out hk_ (fun h => h.elim (fun h => h.1.2 rfl) HNE.out)); obtain ⟨ha, hb⟩ := hL_.cell; have hc0 := (blk_cell HX.out 0).trans rfl; have hc1 := (blk_cell HX.out 1).trans rfl; have hc2 := (blk_cell HX.out 2).trans rfl; have hc3 := (blk_cell HX.out 3).trans rfl; have hc4 := (blk_cell HX.out 4).trans rfl; have hd0 := blk_frozen HX.out 0; have hd1 := blk_frozen HX.out 1; have hd2 := blk_frozen HX.out 2; have hd3 := blk_frozen HX.out 3; have hd4 := blk_frozen HX.out 4; clear hk_ hL_ HK_ HF_ HX_) | ((with_reducible refine gate_dst (N := 91) rfl ?_); refine goesL_ (some 91) rfl rfl Try.func36 (by kernel_rfl) rfl #[.pointer (some ⟨g, 0, none⟩), .int .i64 1, .int .i64 t] rfl (by (try simp only [List.map_toArray, List.map_cons, List.map_nil]); first | done | rfl) ?_; (refine (line_put.calls (fun k => (P0_ k ∧ k ≠ b0) ∧ k ≠ b1) g t _ (1) (t) _ w0 _ HL.out HF.out H9.out).mono ?_); rintro e w1 ⟨rfl, hL_, hk_⟩; refine ⟨_, rfl, ?_⟩; have HK_ := HK; have HF_ := HF; have HX_ := HX; clear HL HK HF HX ha hb hc0 hc1 hc2 hc3 hc4 hd0 hd1 hd2 hd3 hd4; have HL := aK hL_; have HK := aK (HK_.out.then_ hk_ (fun k hk => hk.elim (fun h => .inl (.inl h.1.1)) (fun e => .inl (.inr e)))); have HF := aK (fun k (h : w1.heap.size ≤ k) => HF_.out k (Nat.le_trans hk_.1 h)); have HX := aK (blk_kept HX_.out hk_ (fun h => h.elim (fun h => h.1.2 rfl) HNE.out)); obtain ⟨ha, hb⟩ := hL_.cell; have hc0 := (blk_cell HX.out 0).trans rfl; have hc1 := (blk_cell HX.out 1).trans rfl; have hc2 := (blk_cell HX.out 2).trans rfl; have hc3 := (blk_cell HX.out 3).trans rfl; have hc4 := (blk_cell HX.out 4).trans rfl; have hd0 := blk_frozen HX.out 0; have hd1 := blk_frozen HX.out 1; have hd2 := blk_frozen HX.out 2; have hd3 := blk_frozen HX.out 3; have hd4 := blk_frozen HX.out 4; clear hk_ hL_ HK_ HF_ HX_) | ((with_reducible refine gate_dst (N := 98) rfl ?_); refine goesL_ (some 98) rfl rfl Try.func36 (by kernel_rfl) rfl #[.pointer (some ⟨g, 0, none⟩), .int .i64 3, .int .i64 (wrap64 (4 * t))] rfl (by (try simp only [List.map_toArray, List.map_cons, List.map_nil]); first | done | rfl) ?_; (refine (line_put.calls (fun k => (P0_ k ∧ k ≠ b0) ∧ k ≠ b1) g t _ (3) ((wrap64 (4 * t))) _ w0 _ HL.out HF.out H10.out).mono ?_); rintro e w1 ⟨rfl, hL_, hk_⟩; refine ⟨_, rfl, ?_⟩; have HK_ := HK; have HF_ := HF; have HX_ := HX; clear HL HK HF HX ha hb hc0 hc1 hc2 hc3 hc4 hd0 hd1 hd2 hd3 hd4; have HL := aK hL_; have HK := aK (HK_.out.then_ hk_ (fun k hk => hk.elim (fun h => .inl (.inl h.1.1)) (fun e => .inl (.inr e)))); have HF := aK (fun k (h : w1.heap.size ≤ k) => HF_.out k (Nat.le_trans hk_.1 h)); have HX := aK (blk_kept HX_.out hk_ (fun h => h.elim (fun h => h.1.2 rfl) HNE.out)); obtain ⟨ha, hb⟩ := hL_.cell; have hc0 := (blk_cell HX.out 0).trans rfl; have hc1 := (blk_cell HX.out 1).trans rfl; have hc2 := (blk_cell HX.out 2).trans rfl; have hc3 := (blk_cell HX.out 3).trans rfl; have hc4 := (blk_cell HX.out 4).trans rfl; have hd0 := blk_frozen HX.out 0; have hd1 := blk_frozen HX.out 1; have hd2 := blk_frozen HX.out 2; have hd3 := blk_frozen HX.out 3; have hd4 := blk_frozen HX.out 4; clear hk_ hL_ HK_ HF_ HX_))
       refine bodyPost_end (v := .tuple #[]) (by simp [results, Try.results37, go_sem]) rfl ⟨rfl, ?_⟩
       exact ⟨HL.out.mono (fun k h => h.1.1), HK.out⟩
     · have f2 : (x2 == 1) = false := beq_eq_false_iff_ne.mpr hau
       have e1 := Option.some.inj ((if_neg hau).symm.trans HZ.out)
       clear hau HZ
       subst e1
       go_wp2
       refine bodyPost_end (v := .tuple #[]) (by simp [results, Try.results37, go_sem]) rfl ⟨rfl, ?_⟩
       exact ⟨HL.out.mono (fun k h => h.1.1), HK.out⟩
    | succ n =>
     obtain ⟨l8, h8, h9⟩ := Option.bind_eq_some_iff.1 (show ((line_bytes.f t l (bt x3 (i : Int)) (if n = 0 ∧ Go.bits .and .i64 x1 1 = 1 then 1 else 0)).bind fun l1 => line_item.g t x1 x3 n (i + 1) l1) = some l7 from HR.out)
     have H9 := aK h9
     clear h9 HR
     have hlt : i < x3.size := by omega
     have f3 : decide ((i : Int) < (x3.size : Int)) = true := decide_eq_true (by omega)
     have f3b : decide (i < x3.size) = true := decide_eq_true hlt
     have hcell : wr.cell? ⟨b1, i, none⟩ = some (.int .u8 (bt x3 (i : Int))) := (blk_cellq HY.out i).trans (HCS.out i hlt)
     have e4 : wrap64 ((i : Int) + 1) = ((i + 1 : Nat) : Int) := by have := HS.out; unfold wrap64; omega
     have e5 : IntKind.i64.wrap ((i : Int) + 1) = ((i + 1 : Nat) : Int) := (i64_w _).trans e4
     have e6 : wrap64 ((x3.size : Int) - 1) = (x3.size : Int) - 1 := by have := HS.out; unfold wrap64; omega
     have e7 : IntKind.i64.wrap ((x3.size : Int) - 1) = (x3.size : Int) - 1 := (i64_w _).trans e6
     by_cases hb : n = 0 ∧ Go.bits .and .i64 x1 1 = 1
     · rw [if_pos hb] at h8
       have f4 : ((i : Int) == (x3.size : Int) - 1) = true := beq_iff_eq.mpr (by omega)
       have f5 : (Go.bits .and .i64 x1 1 == 1) = true := beq_iff_eq.mpr hb.2
       clear hb
       have H8 := aK h8
       clear h8
       go_wp2_with ((with_reducible refine gate_dst (N := 75) rfl ?_); refine goesL_ (some 75) rfl rfl Try.func47 (by kernel_rfl) rfl #[.pointer (some ⟨g, 0, none⟩), .int .u8 (bt x3 (i : Int)), _] rfl (by (try simp only [List.map_toArray, List.map_cons, List.map_nil]); first | done | rfl) ?_; (refine (line_bytes.calls (fun k => (P0_ k ∧ k ≠ b0) ∧ k ≠ b1) g t _ ((bt x3 (i : Int))) _ _ w0 _ HL.out HF.out H8.out).mono ?_); rintro e w1 ⟨rfl, hL_, hk_⟩; refine ⟨_, rfl, ?_⟩; have HK_ := HK; have HF_ := HF; have HX_ := HX; clear HL HK HF HX ha hb hc0 hc1 hc2 hc3 hc4 hd0 hd1 hd2 hd3 hd4; have HL := aK hL_; have HK := aK (HK_.out.then_ hk_ (fun k hk => hk.elim (fun h => .inl (.inl h.1.1)) (fun e => .inl (.inr e)))); have HF := aK (fun k (h : w1.heap.size ≤ k) => HF_.out k (Nat.le_trans hk_.1 h)); have HX := aK (blk_kept HX_.out hk_ (fun h => h.elim (fun h => h.1.2 rfl) HNE.out)); have HY_ := HY; clear HY; have HY := aK (blk_kept HY_.out hk_ (fun h => h.elim (fun h => h.2 rfl) HNE1.out)); clear HY_; obtain ⟨ha, hb⟩ := hL_.cell; have hc0 := (blk_cell HX.out 0).trans rfl; have hc1 := (blk_cell HX.out 1).trans rfl; have hc2 := (blk_cell HX.out 2).trans rfl; have hc3 := (blk_cell HX.out 3).trans rfl; have hc4 := (blk_cell HX.out 4).trans rfl; have hd0 := blk_frozen HX.out 0; have hd1 := blk_frozen HX.out 1; have hd2 := blk_frozen HX.out 2; have hd3 := blk_frozen HX.out 3; have hd4 := blk_frozen HX.out 4; clear hk_ hL_ HK_ HF_ HX_)
       go_roundg n
       case rel => exact ⟨l8, i + 1, by omega, rfl, H9, HL, HK, HX, HY, HF⟩
       case measure => omega
     · rw [if_neg hb] at h8
       by_cases hn : n = 0
       · have f4 : ((i : Int) == (x3.size : Int) - 1) = true := beq_iff_eq.mpr (by omega)
         have f5 : (Go.bits .and .i64 x1 1 == 1) = false := beq_eq_false_iff_ne.mpr (fun h => hb ⟨hn, h⟩)
         clear hb hn
         have H8 := aK h8
         clear h8
         go_wp2_with ((with_reducible refine gate_dst (N := 75) rfl ?_); refine goesL_ (some 75) rfl rfl Try.func47 (by kernel_rfl) rfl #[.pointer (some ⟨g, 0, none⟩), .int .u8 (bt x3 (i : Int)), _] rfl (by (try simp only [List.map_toArray, List.map_cons, List.map_nil]); first | done | rfl) ?_; (refine (line_bytes.calls (fun k => (P0_ k ∧ k ≠ b0) ∧ k ≠ b1) g t _ ((bt x3 (i : Int))) _ _ w0 _ HL.out HF.out H8.out).mono ?_); rintro e w1 ⟨rfl, hL_, hk_⟩; refine ⟨_, rfl, ?_⟩; have HK_ := HK; have HF_ := HF; have HX_ := HX; clear HL HK HF HX ha hb hc0 hc1 hc2 hc3 hc4 hd0 hd1 hd2 hd3 hd4; have HL := aK hL_; have HK := aK (HK_.out.then_ hk_ (fun k hk => hk.elim (fun h => .inl (.inl h.1.1)) (fun e => .inl (.inr e)))); have HF := aK (fun k (h : w1.heap.size ≤ k) => HF_.out k (Nat.le_trans hk_.1 h)); have HX := aK (blk_kept HX_.out hk_ (fun h => h.elim (fun h => h.1.2 rfl) HNE.out)); have HY_ := HY; clear HY; have HY := aK (blk_kept HY_.out hk_ (fun h => h.elim (fun h => h.2 rfl) HNE1.out)); clear HY_; obtain ⟨ha, hb⟩ := hL_.cell; have hc0 := (blk_cell HX.out 0).trans rfl; have hc1 := (blk_cell HX.out 1).trans rfl; have hc2 := (blk_cell HX.out 2).trans rfl; have hc3 := (blk_cell HX.out 3).trans rfl; have hc4 := (blk_cell HX.out 4).trans rfl; have hd0 := blk_frozen HX.out 0; have hd1 := blk_frozen HX.out 1; have hd2 := blk_frozen HX.out 2; have hd3 := blk_frozen HX.out 3; have hd4 := blk_frozen HX.out 4; clear hk_ hL_ HK_ HF_ HX_)
         go_roundg n
         case rel => exact ⟨l8, i + 1, by omega, rfl, H9, HL, HK, HX, HY, HF⟩
         case measure => omega
       · have f4 : ((i : Int) == (x3.size : Int) - 1) = false := beq_eq_false_iff_ne.mpr (by omega)
         clear hb hn
         have H8 := aK h8
         clear h8
         go_wp2_with ((with_reducible refine gate_dst (N := 75) rfl ?_); refine goesL_ (some 75) rfl rfl Try.func47 (by kernel_rfl) rfl #[.pointer (some ⟨g, 0, none⟩), .int .u8 (bt x3 (i : Int)), _] rfl (by (try simp only [List.map_toArray, List.map_cons, List.map_nil]); first | done | rfl) ?_; (refine (line_bytes.calls (fun k => (P0_ k ∧ k ≠ b0) ∧ k ≠ b1) g t _ ((bt x3 (i : Int))) _ _ w0 _ HL.out HF.out H8.out).mono ?_); rintro e w1 ⟨rfl, hL_, hk_⟩; refine ⟨_, rfl, ?_⟩; have HK_ := HK; have HF_ := HF; have HX_ := HX; clear HL HK HF HX ha hb hc0 hc1 hc2 hc3 hc4 hd0 hd1 hd2 hd3 hd4; have HL := aK hL_; have HK := aK (HK_.out.then_ hk_ (fun k hk => hk.elim (fun h => .inl (.inl h.1.1)) (fun e => .inl (.inr e)))); have HF := aK (fun k (h : w1.heap.size ≤ k) => HF_.out k (Nat.le_trans hk_.1 h)); have HX := aK (blk_kept HX_.out hk_ (fun h => h.elim (fun h => h.1.2 rfl) HNE.out)); have HY_ := HY; clear HY; have HY := aK (blk_kept HY_.out hk_ (fun h => h.elim (fun h => h.2 rfl) HNE1.out)); clear HY_; obtain ⟨ha, hb⟩ := hL_.cell; have hc0 := (blk_cell HX.out 0).trans rfl; have hc1 := (blk_cell HX.out 1).trans rfl; have hc2 := (blk_cell HX.out 2).trans rfl; have hc3 := (blk_cell HX.out 3).trans rfl; have hc4 := (blk_cell HX.out 4).trans rfl; have hd0 := blk_frozen HX.out 0; have hd1 := blk_frozen HX.out 1; have hd2 := blk_frozen HX.out 2; have hd3 := blk_frozen HX.out 3; have hd4 := blk_frozen HX.out 4; clear hk_ hL_ HK_ HF_ HX_)
         go_roundg n
         case rel => exact ⟨l8, i + 1, by omega, rfl, H9, HL, HK, HX, HY, HF⟩
         case measure => omega
  clear k4
  by_cases hfa : x4 = 10
  · have f1 : (x4 == 10) = true := beq_iff_eq.mpr hfa
    have hack := aK (show (1 : Int) = (if x4 = 10 then 1 else 0) from (if_pos hfa).symm)
    clear hfa
    go_wp2
    exact hJ2 _ _ _ _ _ _ _ _ _ _ _ _ _ _ _ _ _ _ _ _ _ _ _ _ _ _ _ _ _ _ _ _ _ _ _ _ _ _ hack.out HL HK HX HF
  · have f1 : (x4 == 10) = false := beq_eq_false_iff_ne.mpr hfa
    have hack := aK (show (0 : Int) = (if x4 = 10 then 1 else 0) from (if_neg hfa).symm)
    clear hfa
    go_wp2
    exact hJ2 _ _ _ _ _ _ _ _ _ _ _ _ _ _ _ _ _ _ _ _ _ _ _ _ _ _ _ _ _ _ _ _ _ _ _ _ _ _ hack.out HL HK HX HF
 clear k1
 obtain ⟨ha, hb⟩ := HL.out.cell
 have hc0 : wb.cell? ⟨b0, 0, none⟩ = some (.int .i64 x0) := (blk_cell HX.out 0).trans rfl
 have hc1 : wb.cell? ⟨b0, 1, none⟩ = some (.int .i64 x1) := (blk_cell HX.out 1).trans rfl
 have hc2 : wb.cell? ⟨b0, 2, none⟩ = some (.int .i64 x2) := (blk_cell HX.out 2).trans rfl
 have hc3 : wb.cell? ⟨b0, 3, none⟩ = some (.string x3) := (blk_cell HX.out 3).trans rfl
 have hc4 : wb.cell? ⟨b0, 4, none⟩ = some (.int .i64 x4) := (blk_cell HX.out 4).trans rfl
 have hd0 := blk_frozen HX.out 0
 have hd1 := blk_frozen HX.out 1
 have hd2 := blk_frozen HX.out 2
 have hd3 := blk_frozen HX.out 3
 have hd4 := blk_frozen HX.out 4
 cases fi
 · have h3 := (if_neg Bool.false_ne_true).symm.trans HA.out
   obtain ⟨l1, h1, h3⟩ := Option.bind_eq_some_iff.1 h3
   obtain ⟨l2, h2, h3⟩ := Option.bind_eq_some_iff.1 h3
   have H1 := aK h1
   have H2 := aK h2
   have H3 := aK h3
   clear h1 h2 h3 HA
   go_wp2_with (first | ((with_reducible refine gate_dst (N := 17) rfl ?_); refine goesL_ (some 17) rfl rfl Try.func36 (by kernel_rfl) rfl #[.pointer (some ⟨g, 0, none⟩), .int .i64 0, .int .i64 x0] rfl (by (try simp only [List.map_toArray, List.map_cons, List.map_nil]); first | done | rfl) ?_; (refine (line_put.calls (fun k => P0_ k ∧ k ≠ b0) g t _ (0) (x0) _ w0 _ HL.out HF.out H1.out).mono ?_); rintro e w1 ⟨rfl, hL_, hk_⟩; refine ⟨_, rfl, ?_⟩; have HK_ := HK; have HF_ := HF; have HX_ := HX; clear HL HK HF HX ha hb hc0 hc1 hc2 hc3 hc4 hd0 hd1 hd2 hd3 hd4; have HL := aK hL_; have HK := aK (HK_.out.then_ hk_ (fun k hk => hk.elim (fun h => .inl (.inl h.1)) (fun e => .inl (.inr e)))); have HF := aK (fun k (h : w1.heap.size ≤ k) => HF_.out k (Nat.le_trans hk_.1 h)); have HX := aK (blk_kept HX_.out hk_ (fun h => h.elim (fun h => h.2 rfl) HNE.out)); obtain ⟨ha, hb⟩ := hL_.cell; have hc0 := (blk_cell HX.out 0).trans rfl; have hc1 := (blk_cell HX.out 1).trans rfl; have hc2 := (blk_cell HX.out 2).trans rfl; have hc3 := (blk_cell HX.out 3).trans rfl; have hc4 := (blk_cell HX.out 4).trans rfl; have hd0 := blk_frozen HX.out 0; have hd1 := blk_frozen HX.out 1; have hd2 := blk_frozen HX.out 2; have hd3 := blk_frozen HX.out 3; have hd4 := blk_frozen HX.out 4; clear hk_ hL_ HK_ HF_ HX_) | ((with_reducible refine gate_dst (N := 23) rfl ?_); refine goesL_ (some 23) rfl rfl Try.func36 (by kernel_rfl) rfl #[.pointer (some ⟨g, 0, none⟩), .int .i64 2, .int .i64 t] rfl (by (try simp only [List.map_toArray, List.map_cons, List.map_nil]); first | done | rfl) ?_; (refine (line_put.calls (fun k => P0_ k ∧ k ≠ b0) g t _ (2) (t) _ w0 _ HL.out HF.out H2.out).mono ?_); rintro e w1 ⟨rfl, hL_, hk_⟩; refine ⟨_, rfl, ?_⟩; have HK_ := HK; have HF_ := HF; have HX_ := HX; clear HL HK HF HX ha hb hc0 hc1 hc2 hc3 hc4 hd0 hd1 hd2 hd3 hd4; have HL := aK hL_; have HK := aK (HK_.out.then_ hk_ (fun k hk => hk.elim (fun h => .inl (.inl h.1)) (fun e => .inl (.inr e)))); have HF := aK (fun k (h : w1.heap.size ≤ k) => HF_.out k (Nat.le_trans hk_.1 h)); have HX := aK (blk_kept HX_.out hk_ (fun h => h.elim (fun h => h.2 rfl) HNE.out)); obtain ⟨ha, hb⟩ := hL_.cell; have hc0 := (blk_cell HX.out 0).trans rfl; have hc1 := (blk_cell HX.out 1).trans rfl; have hc2 := (blk_cell HX.out 2).trans rfl; have hc3 := (blk_cell HX.out 3).trans rfl; have hc4 := (blk_cell HX.out 4).trans rfl; have hd0 := blk_frozen HX.out 0; have hd1 := blk_frozen HX.out 1; have hd2 := blk_frozen HX.out 2; have hd3 := blk_frozen HX.out 3; have hd4 := blk_frozen HX.out 4; clear hk_ hL_ HK_ HF_ HX_) | ((with_reducible refine gate_dst (N := 29) rfl ?_); refine goesL_ (some 29) rfl rfl Try.func36 (by kernel_rfl) rfl #[.pointer (some ⟨g, 0, none⟩), .int .i64 3, .int .i64 t] rfl (by (try simp only [List.map_toArray, List.map_cons, List.map_nil]); first | done | rfl) ?_; (refine (line_put.calls (fun k => P0_ k ∧ k ≠ b0) g t _ (3) (t) _ w0 _ HL.out HF.out H3.out).mono ?_); rintro e w1 ⟨rfl, hL_, hk_⟩; refine ⟨_, rfl, ?_⟩; have HK_ := HK; have HF_ := HF; have HX_ := HX; clear HL HK HF HX ha hb hc0 hc1 hc2 hc3 hc4 hd0 hd1 hd2 hd3 hd4; have HL := aK hL_; have HK := aK (HK_.out.then_ hk_ (fun k hk => hk.elim (fun h => .inl (.inl h.1)) (fun e => .inl (.inr e)))); have HF := aK (fun k (h : w1.heap.size ≤ k) => HF_.out k (Nat.le_trans hk_.1 h)); have HX := aK (blk_kept HX_.out hk_ (fun h => h.elim (fun h => h.2 rfl) HNE.out)); obtain ⟨ha, hb⟩ := hL_.cell; have hc0 := (blk_cell HX.out 0).trans rfl; have hc1 := (blk_cell HX.out 1).trans rfl; have hc2 := (blk_cell HX.out 2).trans rfl; have hc3 := (blk_cell HX.out 3).trans rfl; have hc4 := (blk_cell HX.out 4).trans rfl; have hd0 := blk_frozen HX.out 0; have hd1 := blk_frozen HX.out 1; have hd2 := blk_frozen HX.out 2; have hd3 := blk_frozen HX.out 3; have hd4 := blk_frozen HX.out 4; clear hk_ hL_ HK_ HF_ HX_))
   exact hJ _ _ _ _ _ _ _ _ _ _ _ _ _ _ _ _ _ _ _ _ _ _ HL HK HX HF
 · have H3 := aK ((if_pos rfl).symm.trans HA.out)
   clear HA
   go_wp2_with (first | ((with_reducible refine gate_dst (N := 13) rfl ?_); refine goesL_ (some 13) rfl rfl Try.func36 (by kernel_rfl) rfl #[.pointer (some ⟨g, 0, none⟩), .int .i64 3, .int .i64 x0] rfl (by (try simp only [List.map_toArray, List.map_cons, List.map_nil]); first | done | rfl) ?_; (refine (line_put.calls (fun k => P0_ k ∧ k ≠ b0) g t _ (3) (x0) _ w0 _ HL.out HF.out H3.out).mono ?_); rintro e w1 ⟨rfl, hL_, hk_⟩; refine ⟨_, rfl, ?_⟩; have HK_ := HK; have HF_ := HF; have HX_ := HX; clear HL HK HF HX ha hb hc0 hc1 hc2 hc3 hc4 hd0 hd1 hd2 hd3 hd4; have HL := aK hL_; have HK := aK (HK_.out.then_ hk_ (fun k hk => hk.elim (fun h => .inl (.inl h.1)) (fun e => .inl (.inr e)))); have HF := aK (fun k (h : w1.heap.size ≤ k) => HF_.out k (Nat.le_trans hk_.1 h)); have HX := aK (blk_kept HX_.out hk_ (fun h => h.elim (fun h => h.2 rfl) HNE.out)); obtain ⟨ha, hb⟩ := hL_.cell; have hc0 := (blk_cell HX.out 0).trans rfl; have hc1 := (blk_cell HX.out 1).trans rfl; have hc2 := (blk_cell HX.out 2).trans rfl; have hc3 := (blk_cell HX.out 3).trans rfl; have hc4 := (blk_cell HX.out 4).trans rfl; have hd0 := blk_frozen HX.out 0; have hd1 := blk_frozen HX.out 1; have hd2 := blk_frozen HX.out 2; have hd3 := blk_frozen HX.out 3; have hd4 := blk_frozen HX.out 4; clear hk_ hL_ HK_ HF_ HX_))
   exact hJ _ _ _ _ _ _ _ _ _ _ _ _ _ _ _ _ _ _ _ _ _ _ HL HK HX HF
theorem LineAt.drew {w0 w : World} {g : Nat} {P : Nat → Prop} {t : Int} {l : List S53} (h : LineAt w0 w g P t l) : LineAt w0 w.drew g P t l := by
  obtain ⟨h1, h2, v, h3, h4⟩ := h
  exact ⟨below_drew1 h1, h2, v, blk_drew h3, Kd.R_drew h4⟩
/-- The error of the items from a place on. -/
def i2c_Encode.chk (k : Nat) (n : Nat) : Nat → List S49 → Option Int
 | _, [] => some 0
 | i, x :: r => (i2c_check.f k x.f0 x.f1 x.f2 x.f3 x.f4 ((i : Int) == (n : Int) - 1)).bind fun e => if e = 0 then i2c_Encode.chk k n (i + 1) r else some e
/-- The runs with those of the items from a place on; whether the bus is idle before the first. -/
def i2c_Encode.items (t : Int) : Bool → List S49 → List S53 → Option (List S53)
 | _, [], o => some o
 | b, x :: r, o => (line_item.f t o x.f0 x.f1 x.f2 x.f3 x.f4 b).bind fun o2 => i2c_Encode.items t (x.f2 == 1) r o2
def i2c_Encode.left : Int → List S53 → Int
 | a, [] => a
 | a, x :: r => i2c_Encode.left (wrap64 (a - x.f1)) r
def i2c_Encode.rest (t : Int) (l : List S49) : Option (List S53 × Int) :=
 (line_put.f [] 3 (wrap64 (4 * t))).bind fun o => (i2c_Encode.items t true l o).bind fun o2 => if (o2.length : Int) > 262144 then some ([], 6) else (if i2c_Encode.left 1099511627776 o2 < 0 then some ([], 2) else some (o2, 0))
def i2c_Encode.f (k : Nat) (t : Int) (l : List S49) : Option (List S53 × Int) := (i2c_Check.f t).bind fun e => if e = 0 then (if (l.length : Int) > 1024 then some ([], 6) else (i2c_Encode.chk k l.length 0 l).bind fun e2 => if e2 = 0 then i2c_Encode.rest t l else some ([], e2)) else some ([], e)
theorem i2c_Encode.drop_cons (l : List S49) {i : Nat} (h : i < l.length) : l.drop i = rd_T49 l (i : Int) :: l.drop (i + 1) := by
 rw [List.drop_eq_getElem_cons h]
 simp [rd_T49, List.getD, List.getElem?_eq_getElem h]
theorem i2c_Encode.flag (l : List S49) (i : Nat) : (((i + 1 : Nat) : Int) == 0 || (rd_T49 l (((i + 1 : Nat) : Int) - 1)).f2 == 1) = ((rd_T49 l (i : Int)).f2 == 1) := by
 rw [show (((i + 1 : Nat) : Int) == 0) = false from beq_eq_false_iff_ne.mpr (by omega), Bool.false_or, show (((i + 1 : Nat) : Int) - 1) = (i : Int) by omega]
set_option maxHeartbeats 16000000 in
set_option maxRecDepth 100000 in
theorem i2c_Encode.calls (k : Nat) (a0_0 : Int) (A1 : Option Addr) (c1 : Nat) (l1 : List (S49)) (r1 : List (S53)) (r2 : Int) (w : World) (hr1 : Kd.C k49 w A1 l1.length l1) (hc1 : l1.length ≤ c1) (h : i2c_Encode.f k a0_0 l1 = some (r1, r2)) :
  Calls Try.prog 14 #[.agg #[.int .i64 a0_0], .slice A1 l1.length c1] w fun e w' => ∃ v0_ : Value, e = .returned (.tuple #[v0_, .int .i64 r2]) ∧ Kd.R k53 53 w' w.heap.size (fun _ => True) v0_ r1 ∧ Below w.heap.size w w' := by
 have hu23 := Try.underlying23
 have hu49 := Try.underlying49
 have hu53 := Try.underlying53
 have hu66 := Try.underlying66
 have HR1 := aK hr1
 unfold i2c_Encode.f at h
 obtain ⟨e, he, h⟩ := Option.bind_eq_some_iff.1 h
 have HE := aK he
 clear he hr1
 have hx := blk_new w (.cells #[.int .i64 a0_0] 23 (0, 0))
 have HB := aK (below_alloc (Below.refl w.heap.size w) (.cells #[.int .i64 a0_0] 23 (0, 0)))
 have HX := aK hx
 clear hx
 have hrets : ∀ (e : Int) (w' : World), Below w.heap.size w w' → r1 = [] → r2 = e → True := fun _ _ _ _ _ => trivial
 by_cases c0 : e = 0
 · have H := aK ((if_pos c0).symm.trans h)
   have c0b : (e != 0) = false := by simp [c0]
   clear h c0
   go_enter Try.func14, Try.ntmps14
   go_upto_region 1 with (fail)
   generalize (w.alloc (.cells #[.int .i64 a0_0] 23 (0, 0))) = wb at HB HX ⊢
   generalize w.heap.size = b0 at HX ⊢
   have hz0 : wb.cell? ⟨b0, 0, none⟩ = some (.int .i64 a0_0) := (blk_cell HX.out 0).trans rfl
   have hy0 := blk_frozen HX.out 0
   go_upto_region 4 with ((with_reducible refine gate_dst (N := 17) rfl ?_); refine goesL_ (some 17) rfl rfl Try.func10 (by kernel_rfl) rfl #[.agg #[.int .i64 a0_0]] rfl (by (try simp only [List.map_toArray, List.map_cons, List.map_nil]); first | done | rfl) ?_; (with_reducible refine (i2c_Check.calls a0_0 e _ HE.out).mono ?_); rintro e' w1 ⟨rfl, hb⟩; refine ⟨_, rfl, ?_⟩; have HB_ := HB; have HX_ := HX; clear HB HX hz0 hy0; have HB := aK (below_then HB_.out (below_size HB_.out) hb); have HX := aK (blk_below HX_.out hb); have hz0 : w1.cell? ⟨b0, 0, none⟩ = some (.int .i64 a0_0) := (blk_cell HX.out 0).trans rfl; have hy0 := blk_frozen HX.out 0; clear HB_ HX_ hb)
   by_cases c1 : (l1.length : Int) > 1024
   · have H2 := (if_pos c1).symm.trans H.out
     have c1b : decide (1024 < (l1.length : Int)) = true := decide_eq_true c1
     have c1b1 : decide (1024 < l1.length) = true := decide_eq_true (by omega)
     clear H c1
     obtain ⟨rfl, rfl⟩ := Prod.mk.inj (Option.some.inj H2)
     go_wp2
     go_ret2
     exact ⟨_, rfl, Kd.R_nil _ _ _ _ _, HB.out⟩
   · have H2 := (if_neg c1).symm.trans H.out
     have c1b : decide (1024 < (l1.length : Int)) = false := decide_eq_false c1
     have c1b1 : decide (1024 < l1.length) = false := decide_eq_false (by omega)
     have HL1 := aK (show l1.length ≤ 1024 by omega)
     clear H c1
     obtain ⟨e2, h2, H3⟩ := Option.bind_eq_some_iff.1 H2
     have HC := aK h2
     have HH := aK H3
     clear H2 h2 H3
     go_wp2
     go_loopg [26] l1.length (fun n v26 w' => ∃ i : Nat, i + n = l1.length ∧ v26 = .int .i64 (i : Int) ∧ Aside0 (i2c_Encode.chk k l1.length i (l1.drop i) = some e2) ∧ Aside0 (Below w.heap.size w w') ∧ Aside0 (w'.heap[b0]? = some (.cells #[.int .i64 a0_0] 23 (0, 0))))
     case atStart => exact ⟨0, Nat.zero_add _, rfl, HC, HB, HX⟩
     case round =>
      clear HC HB HX hz0 hy0
      obtain ⟨i, hi, rfl, HC, HB, HX⟩ := hrel
      cases gk with
      | zero =>
       have e0 : (some 0 : Option Int) = some e2 := by
        have h9 := HC.out
        rw [List.drop_eq_nil_of_le (by omega)] at h9
        exact h9
       obtain rfl := Option.some.inj e0
       have H5 := aK ((if_pos rfl).symm.trans HH.out)
       clear HH HC e0
       have f3 : decide ((i : Int) < (l1.length : Int)) = false := decide_eq_false (by omega)
       have hz0 : wr.cell? ⟨b0, 0, none⟩ = some (.int .i64 a0_0) := (blk_cell HX.out 0).trans rfl
       have hy0 := blk_frozen HX.out 0
       go_upto_region 14 with (fail)
       have h5 := H5.out
       unfold i2c_Encode.rest at h5
       obtain ⟨o1, h6, h7⟩ := Option.bind_eq_some_iff.1 h5
       obtain ⟨o2, h8, h9⟩ := Option.bind_eq_some_iff.1 h7
       have H6 := aK h6
       have H8 := aK h8
       have H9 := aK h9
       clear H5 h5 h6 h7 h8 h9
       have HL := aK (show LineAt w (wr.alloc (.cells #[.int .i64 a0_0, .slice none 0 0] 66 (0, 0))) wr.heap.size (fun _ => True) a0_0 [] from ⟨below_alloc HB.out _, below_size HB.out, .slice none 0 0, blk_new wr _, Kd.R_nil _ _ _ _ _⟩)
       have hz0 : (wr.alloc (.cells #[.int .i64 a0_0, .slice none 0 0] 66 (0, 0))).cell? ⟨b0, 0, none⟩ = some (.int .i64 a0_0) := (blk_cell (blk_alloc HX.out _) 0).trans rfl
       have hy0 := blk_frozen (blk_alloc HX.out (.cells #[.int .i64 a0_0, .slice none 0 0] 66 (0, 0))) 0
       clear HB HX f3
       generalize (wr.alloc (.cells #[.int .i64 a0_0, .slice none 0 0] 66 (0, 0))) = wg at HL hz0 hy0 ⊢
       generalize wr.heap.size = g at HL ⊢
       go_wp2_with ((with_reducible refine gate_dst (N := 50) rfl ?_); refine goesL_ (some 50) rfl rfl Try.func36 (by kernel_rfl) rfl #[.pointer (some ⟨g, 0, none⟩), .int .i64 3, .int .i64 (wrap64 (4 * a0_0))] rfl (by (try simp only [List.map_toArray, List.map_cons, List.map_nil]); first | done | rfl) ?_; (refine (line_put.calls (fun _ => True) g a0_0 [] 3 (wrap64 (4 * a0_0)) o1 w _ HL.out (fun _ _ => trivial) H6.out).mono ?_); rintro e' w1 ⟨rfl, hL_, _⟩; refine ⟨_, rfl, ?_⟩; clear HL hz0 hy0; have HL := aK hL_; clear hL_)
       go_loopg [53] l1.length (fun n v53 w' => ∃ (o : List S53) (i : Nat), i + n = l1.length ∧ v53 = .int .i64 (i : Int) ∧ Aside0 (i2c_Encode.items a0_0 ((i : Int) == 0 || (rd_T49 l1 ((i : Int) - 1)).f2 == 1) (l1.drop i) o = some o2) ∧ Aside0 (LineAt w w' g (fun _ => True) a0_0 o))
       case atStart => exact ⟨o1, 0, Nat.zero_add _, rfl, H8, HL⟩
       case round =>
        clear HL H8 hi
        obtain ⟨o, i, hi, rfl, HI, HL⟩ := hrel
        cases gk with
        | zero =>
         have e0 : o = o2 := by
          have h9 := HI.out
          rw [List.drop_eq_nil_of_le (by omega)] at h9
          exact Option.some.inj h9
         subst e0
         have f3 : decide ((i : Int) < (l1.length : Int)) = false := decide_eq_false (by omega)
         clear HI
         obtain ⟨hB, hg0, v, hbk, hrow⟩ := HL.out
         obtain ⟨Ao, co, eo⟩ := Kd.R_slice hrow
         subst eo
         have HB := aK hB
         have BK := aK hbk
         have HO := aK hrow
         have hz1 : wr.cell? ⟨g, 1, none⟩ = some (.slice Ao o.length co) := (blk_cell hbk 1).trans rfl
         have hy1 := blk_frozen hbk 1
         clear hB hg0 hbk hrow HL
         by_cases c5 : (o.length : Int) > 262144
         · obtain ⟨rfl, rfl⟩ := Prod.mk.inj (Option.some.inj ((if_pos c5).symm.trans H9.out))
           have c5b : decide (262144 < (o.length : Int)) = true := decide_eq_true c5
           have c5b1 : decide (262144 < o.length) = true := decide_eq_true (by omega)
           clear H9 c5
           go_wp2
           go_ret2
           exact ⟨_, rfl, Kd.R_nil _ _ _ _ _, HB.out⟩
         · have HH9 := aK ((if_neg c5).symm.trans H9.out)
           have c5b : decide (262144 < (o.length : Int)) = false := decide_eq_false c5
           have c5b1 : decide (262144 < o.length) = false := decide_eq_false (by omega)
           have HLO := aK (show o.length ≤ 262144 by omega)
           clear H9 c5
           obtain ⟨wq, ewq⟩ : ∃ q, q = wr := ⟨_, rfl⟩
           subst ewq
           go_wp2
           go_loopg [13, 84] o.length (fun n v13 v84 w' => ∃ (i : Nat) (a : Int), i + n = o.length ∧ v84 = .int .i64 (i : Int) ∧ v13 = .int .i64 a ∧ Aside0 (i2c_Encode.left a (o.drop i) = i2c_Encode.left 1099511627776 o) ∧ Aside0 (Below wq.heap.size wq w'))
           case atStart => exact ⟨0, 1099511627776, Nat.zero_add _, rfl, rfl, ⟨by rw [List.drop_zero]⟩, ⟨Below.refl _ _⟩⟩
           case round =>
            clear f3 hi hz1 hy1
            obtain ⟨i3, a, hi, rfl, rfl, HA, HBl⟩ := hrel
            cases gk with
            | zero =>
             have e0 : a = i2c_Encode.left 1099511627776 o := by
              rw [← HA.out, List.drop_eq_nil_of_le (by omega)]
              rfl
             have f3 : decide ((i3 : Int) < (o.length : Int)) = false := decide_eq_false (by omega)
             have BK2 := aK (blk_below BK.out HBl.out)
             have hz1 : wr.cell? ⟨g, 1, none⟩ = some (.slice Ao o.length co) := (blk_cell BK2.out 1).trans rfl
             have hy1 := blk_frozen BK2.out 1
             have HBB := aK (below_then HB.out (below_size HB.out) HBl.out)
             by_cases c6 : a < 0
             · obtain ⟨rfl, rfl⟩ := Prod.mk.inj (Option.some.inj ((if_pos (e0 ▸ c6)).symm.trans HH9.out))
               have c6b : decide (a < 0) = true := decide_eq_true c6
               clear HH9 c6 e0
               go_wp2
               go_ret2
               exact ⟨_, rfl, Kd.R_nil _ _ _ _ _, HBB.out⟩
             · obtain ⟨rfl, rfl⟩ := Prod.mk.inj (Option.some.inj ((if_neg (e0 ▸ c6)).symm.trans HH9.out))
               have c6b : decide (a < 0) = false := decide_eq_false c6
               clear HH9 c6 e0
               go_wp2
               go_ret2
               exact ⟨_, rfl, Kd.R_below HO.out HBl.out, HBB.out⟩
            | succ n =>
             have hlt : i3 < o.length := by omega
             have f3 : decide ((i3 : Int) < (o.length : Int)) = true := decide_eq_true (by omega)
             have f3b : decide (i3 < o.length) = true := decide_eq_true hlt
             have e4 : wrap64 ((i3 : Int) + 1) = ((i3 + 1 : Nat) : Int) := by have := HLO.out; unfold wrap64; omega
             have e5 : IntKind.i64.wrap ((i3 : Int) + 1) = ((i3 + 1 : Nat) : Int) := (i64_w _).trans e4
             obtain ⟨ad, ead, hx0, hx1⟩ := at_T53 (Kd.R_reads' (Kd.R_below HO.out HBl.out)).2.2 (i3 : Int) (Int.natCast_nonneg i3) (by omega)
             cases ead
             rw [Int.toNat_natCast] at hx0 hx1
             have HAn := aK (show i2c_Encode.left (wrap64 (a - (rd_T53 o (i3 : Int)).f1)) (o.drop (i3 + 1)) = i2c_Encode.left 1099511627776 o from by
              rw [← HA.out, List.drop_eq_getElem_cons hlt]
              simp [i2c_Encode.left, rd_T53, List.getD, List.getElem?_eq_getElem hlt])
             go_wp2
             go_roundg n
             case rel => exact ⟨i3 + 1, _, by omega, rfl, rfl, HAn, ⟨by with_reducible repeat (first | exact HBl.out | apply below_alloc)⟩⟩
             case measure => omega
        | succ n =>
         have hlt : i < l1.length := by omega
         have h9 := HI.out
         rw [i2c_Encode.drop_cons l1 hlt] at h9
         obtain ⟨o3, h3, h4⟩ := Option.bind_eq_some_iff.1 h9
         have HI3 := aK h3
         have HI4 := aK h4
         clear HI h9 h3 h4
         have f3 : decide ((i : Int) < (l1.length : Int)) = true := decide_eq_true (by omega)
         have f3b : decide (i < l1.length) = true := decide_eq_true hlt
         have e4 : wrap64 ((i : Int) + 1) = ((i + 1 : Nat) : Int) := by have := HL1.out; unfold wrap64; omega
         have e5 : IntKind.i64.wrap ((i : Int) + 1) = ((i + 1 : Nat) : Int) := (i64_w _).trans e4
         obtain ⟨ad, ead, hx0, hx1, hx2, hx3, hx4⟩ := at_T49 (Kd.C_below HR1.out HL.out.1) (i : Int) (Int.natCast_nonneg i) (by omega)
         cases ead
         rw [Int.toNat_natCast] at hx0 hx1 hx2 hx3 hx4
         go_upto_region 18 with (fail)
         have hxx := blk_new wr (.cells #[.int .i64 (rd_T49 l1 (i : Int)).f0, .int .i64 (rd_T49 l1 (i : Int)).f1, .int .i64 (rd_T49 l1 (i : Int)).f2, .string (rd_T49 l1 (i : Int)).f3, .int .i64 (rd_T49 l1 (i : Int)).f4] 49 (0, 0))
         have HLx := aK ((HL.out.below (below_alloc (Below.refl _ _) (.cells #[.int .i64 (rd_T49 l1 (i : Int)).f0, .int .i64 (rd_T49 l1 (i : Int)).f1, .int .i64 (rd_T49 l1 (i : Int)).f2, .string (rd_T49 l1 (i : Int)).f3, .int .i64 (rd_T49 l1 (i : Int)).f4] 49 (0, 0)))).away hxx (by decide))
         have HXX := aK hxx
         have HLg := aK HL.out.lt
         clear HL hxx hx0 hx1 hx2 hx3 hx4
         generalize (wr.alloc (.cells #[.int .i64 (rd_T49 l1 (i : Int)).f0, .int .i64 (rd_T49 l1 (i : Int)).f1, .int .i64 (rd_T49 l1 (i : Int)).f2, .string (rd_T49 l1 (i : Int)).f3, .int .i64 (rd_T49 l1 (i : Int)).f4] 49 (0, 0))) = wv at HLx HXX ⊢
         have HNG := aK (show ¬ wr.heap.size = g from by have := HLg.out; omega)
         clear HLg
         generalize wr.heap.size = bx at HLx HXX HNG ⊢
         have hv0 : wv.cell? ⟨bx, 0, none⟩ = some (.int .i64 (rd_T49 l1 (i : Int)).f0) := (blk_cell HXX.out 0).trans rfl
         have hv1 : wv.cell? ⟨bx, 1, none⟩ = some (.int .i64 (rd_T49 l1 (i : Int)).f1) := (blk_cell HXX.out 1).trans rfl
         have hv2 : wv.cell? ⟨bx, 2, none⟩ = some (.int .i64 (rd_T49 l1 (i : Int)).f2) := (blk_cell HXX.out 2).trans rfl
         have hv3 : wv.cell? ⟨bx, 3, none⟩ = some (.string (rd_T49 l1 (i : Int)).f3) := (blk_cell HXX.out 3).trans rfl
         have hv4 : wv.cell? ⟨bx, 4, none⟩ = some (.int .i64 (rd_T49 l1 (i : Int)).f4) := (blk_cell HXX.out 4).trans rfl
         by_cases hi0 : i = 0
         · have f4 : ((i : Int) == 0) = true := beq_iff_eq.mpr (by omega)
           rw [f4, Bool.true_or] at HI3
           have HFx := aK (fun (k : Nat) (hk : wv.heap.size ≤ k) => (⟨trivial, by have := blk_lt HXX.out; omega⟩ : True ∧ k ≠ bx))
           clear hi0
           refine start_ (n := 14) (S := (fun w' => w'.cell? ⟨bx, 0, none⟩ = some (.int .i64 (rd_T49 l1 (i : Int)).f0) ∧ w'.cell? ⟨bx, 1, none⟩ = some (.int .i64 (rd_T49 l1 (i : Int)).f1) ∧ w'.cell? ⟨bx, 2, none⟩ = some (.int .i64 (rd_T49 l1 (i : Int)).f2) ∧ w'.cell? ⟨bx, 3, none⟩ = some (.string (rd_T49 l1 (i : Int)).f3) ∧ w'.cell? ⟨bx, 4, none⟩ = some (.int .i64 (rd_T49 l1 (i : Int)).f4))) (ds := []) #[false, false, false, false, false, false, false, false, false, false, false, false, false, false] (by kernel_rfl) rfl rfl ⟨hv0, hv1, hv2, hv3, hv4⟩ (fun hHeld => ?_)
           refine pure_ (i := 0) (N := some 58) (v := ?_) (a' := ?_) #[true, false, false, false, false, false, false, false, false, false, false, false, false, false] rfl rfl (by kernel_rfl) (fun _ _ _ h => h) (Or.inl ⟨by rfl, ?_⟩) ?_ ?_
           rotate_left
           · intro w'
             go_simp
             with_reducible rfl
           rotate_left
           · simp only [Act.put, List.setIfInBounds_toArray, List.set_cons_zero, List.set_cons_succ, i64_w, i32_w]
             rfl
           refine take_ (i := 1) (N := some 59) (v := ?_) (a' := ?_) #[true, true, false, false, false, false, false, false, false, false, false, false, false, false] rfl rfl (by kernel_rfl) (fun _ _ _ h => h) (Or.inl ⟨by rfl, ?_⟩) hHeld ?_ ?_
           rotate_left
           · rintro w' ⟨s0, s1, s2, s3, s4⟩
             go_simp
             with_reducible rfl
           rotate_left
           · simp only [Act.put, List.setIfInBounds_toArray, List.set_cons_zero, List.set_cons_succ, i64_w, i32_w]
             rfl
           refine pure_ (i := 2) (N := some 60) (v := ?_) (a' := ?_) #[true, true, true, false, false, false, false, false, false, false, false, false, false, false] rfl rfl (by kernel_rfl) (fun _ _ _ h => h) (Or.inl ⟨by rfl, ?_⟩) ?_ ?_
           rotate_left
           · intro w'
             go_simp
             with_reducible rfl
           rotate_left
           · simp only [Act.put, List.setIfInBounds_toArray, List.set_cons_zero, List.set_cons_succ, i64_w, i32_w]
             rfl
           refine pure_ (i := 3) (N := some 61) (v := ?_) (a' := ?_) #[true, true, true, true, false, false, false, false, false, false, false, false, false, false] rfl rfl (by kernel_rfl) (fun _ _ _ h => h) (Or.inl ⟨by rfl, ?_⟩) ?_ ?_
           rotate_left
           · intro w'
             go_simp
             with_reducible rfl
           rotate_left
           · simp only [Act.put, List.setIfInBounds_toArray, List.set_cons_zero, List.set_cons_succ, i64_w, i32_w]
             rfl
           refine pure_ (i := 4) (N := some 62) (v := ?_) (a' := ?_) #[true, true, true, true, true, false, false, false, false, false, false, false, false, false] rfl rfl (by kernel_rfl) (fun _ _ _ h => h) (Or.inl ⟨by rfl, ?_⟩) ?_ ?_
           rotate_left
           · intro w'
             go_simp
             with_reducible rfl
           rotate_left
           · simp only [Act.put, List.setIfInBounds_toArray, List.set_cons_zero, List.set_cons_succ, i64_w, i32_w]
             rfl
           refine pure_ (i := 5) (N := some 63) (v := undef) (a' := ?_) #[true, true, true, true, true, true, false, false, false, false, false, false, false, false] rfl rfl (by kernel_rfl) (fun _ _ _ h => h) (Or.inr ⟨by rfl, rfl⟩) ?_ ?_
           rotate_left
           · simp only [Act.put, List.setIfInBounds_toArray, List.set_cons_zero, List.set_cons_succ, i64_w, i32_w]
             rfl
           refine pure_ (i := 6) (N := some 64) (v := undef) (a' := ?_) #[true, true, true, true, true, true, true, false, false, false, false, false, false, false] rfl rfl (by kernel_rfl) (fun _ _ _ h => h) (Or.inr ⟨by rfl, rfl⟩) ?_ ?_
           rotate_left
           · simp only [Act.put, List.setIfInBounds_toArray, List.set_cons_zero, List.set_cons_succ, i64_w, i32_w]
             rfl
           refine pure_ (i := 7) (N := some 65) (v := undef) (a' := ?_) #[true, true, true, true, true, true, true, true, false, false, false, false, false, false] rfl rfl (by kernel_rfl) (fun _ _ _ h => h) (Or.inr ⟨by rfl, rfl⟩) ?_ ?_
           rotate_left
           · simp only [Act.put, List.setIfInBounds_toArray, List.set_cons_zero, List.set_cons_succ, i64_w, i32_w]
             rfl
           refine pure_ (i := 8) (N := some 66) (v := undef) (a' := ?_) #[true, true, true, true, true, true, true, true, true, false, false, false, false, false] rfl rfl (by kernel_rfl) (fun _ _ _ h => h) (Or.inr ⟨by rfl, rfl⟩) ?_ ?_
           rotate_left
           · simp only [Act.put, List.setIfInBounds_toArray, List.set_cons_zero, List.set_cons_succ, i64_w, i32_w]
             rfl
           refine pure_ (i := 9) (N := some 67) (v := undef) (a' := ?_) #[true, true, true, true, true, true, true, true, true, true, false, false, false, false] rfl rfl (by kernel_rfl) (fun _ _ _ h => h) (Or.inr ⟨by rfl, rfl⟩) ?_ ?_
           rotate_left
           · simp only [Act.put, List.setIfInBounds_toArray, List.set_cons_zero, List.set_cons_succ, i64_w, i32_w]
             rfl
           refine pure_ (i := 10) (N := some 68) (v := undef) (a' := ?_) #[true, true, true, true, true, true, true, true, true, true, true, false, false, false] rfl rfl (by kernel_rfl) (fun _ _ _ h => h) (Or.inr ⟨by rfl, rfl⟩) ?_ ?_
           rotate_left
           · simp only [Act.put, List.setIfInBounds_toArray, List.set_cons_zero, List.set_cons_succ, i64_w, i32_w]
             rfl
           refine pure_ (i := 11) (N := some 69) (v := undef) (a' := ?_) #[true, true, true, true, true, true, true, true, true, true, true, true, false, false] rfl rfl (by kernel_rfl) (fun _ _ _ h => h) (Or.inr ⟨by rfl, rfl⟩) ?_ ?_
           rotate_left
           · simp only [Act.put, List.setIfInBounds_toArray, List.set_cons_zero, List.set_cons_succ, i64_w, i32_w]
             rfl
           refine pure_ (i := 12) (N := some 70) (v := ?_) (a' := ?_) #[true, true, true, true, true, true, true, true, true, true, true, true, true, false] rfl rfl (by kernel_rfl) (fun _ _ _ h => h) (Or.inl ⟨by rfl, ?_⟩) ?_ ?_
           rotate_left
           · intro w'
             go_simp
             with_reducible rfl
           rotate_left
           · simp only [Act.put, List.setIfInBounds_toArray, List.set_cons_zero, List.set_cons_succ, i64_w, i32_w]
             rfl
           refine one_ (i := 13) (N := some 71) #[true, true, true, true, true, true, true, true, true, true, true, true, true, true] rfl rfl (by kernel_rfl) (by decide) (fun K hK => ?_)
           refine goes_ Try.func37 (by kernel_rfl) rfl #[.pointer (some ⟨g, 0, none⟩), .agg #[.int .i64 (rd_T49 l1 (i : Int)).f0, .int .i64 (rd_T49 l1 (i : Int)).f1, .int .i64 (rd_T49 l1 (i : Int)).f2, .string (rd_T49 l1 (i : Int)).f3, .int .i64 (rd_T49 l1 (i : Int)).f4], .bool true] (by rfl) rfl rfl (by (try simp only [List.map_toArray, List.map_cons, List.map_nil]); first | done | rfl) ?_
           refine (line_item.calls (fun k => True ∧ k ≠ bx) g a0_0 o _ _ _ _ _ true o3 w _ HLx.out.drew HFx.out HI3.out).mono ?_
           rintro e' w1 ⟨rfl, hL_, hk_⟩
           refine ⟨_, rfl, ?_⟩
           have HX1 := aK (blk_kept (W := wv.drew) HXX.out hk_ (fun h => h.elim (fun h => h.2 rfl) HNG.out))
           have HLn := aK (hL_.mono (P' := fun _ => True) (fun _ _ => trivial))
           refine hK.out _ _ ⟨(blk_cell HX1.out 0).trans rfl, (blk_cell HX1.out 1).trans rfl, (blk_cell HX1.out 2).trans rfl, (blk_cell HX1.out 3).trans rfl, (blk_cell HX1.out 4).trans rfl⟩ (fun hHeld => ?_)
           clear hK hk_ hL_ hHeld
           refine done_ (by kernel_rfl) ?_
           simp only [Act.put, List.setIfInBounds_toArray, List.set_cons_zero, List.set_cons_succ]
           have e9 : ((((i) + 1 : Nat) : Int) == 0 || (rd_T49 l1 ((((i) + 1 : Nat) : Int) - 1)).f2 == 1) = ((rd_T49 l1 (i : Int)).f2 == 1) := i2c_Encode.flag l1 (i)
           have HIn := aK (show i2c_Encode.items a0_0 ((((i) + 1 : Nat) : Int) == 0 || (rd_T49 l1 ((((i) + 1 : Nat) : Int) - 1)).f2 == 1) (l1.drop ((i) + 1)) o3 = some o2 from by rw [e9]; exact HI4.out)
           clear e9 HI4
           go_wp2
           go_roundg n
           case rel => exact ⟨o3, (i) + 1, by omega, (by first | rfl | (rw [e10]; rfl) | (simp only [e10])), HIn, HLn⟩
           case measure => omega
         · obtain ⟨j, rfl⟩ : ∃ j, i = j + 1 := ⟨i - 1, by omega⟩
           have f4 : (((j + 1 : Nat) : Int) == 0) = false := beq_eq_false_iff_ne.mpr (by omega)
           have e8 : wrap64 (((j + 1 : Nat) : Int) - 1) = (j : Int) := by have := HL1.out; unfold wrap64; omega
           have e8b : IntKind.i64.wrap (((j + 1 : Nat) : Int) - 1) = (j : Int) := (i64_w _).trans e8
           have e8c : wrap64 (j : Int) = (j : Int) := by have := HL1.out; unfold wrap64; omega
           have e10 : wrap64 ((j : Int) + 1 + 1) = ((j + 1 + 1 : Nat) : Int) := by have := HL1.out; unfold wrap64; omega
           have e8d : IntKind.i64.wrap (j : Int) = (j : Int) := (i64_w _).trans e8c
           have q0 : 0 ≤ (j : Int) := Int.natCast_nonneg j
           have q1 : (j : Int) < (l1.length : Int) := by omega
           rw [f4, Bool.false_or, show (((j + 1 : Nat) : Int) - 1) = (j : Int) by omega] at HI3
           have f6 : decide ((j : Int) < (l1.length : Int)) = true := decide_eq_true (by omega)
           have f6b : decide (j < l1.length) = true := decide_eq_true (by omega)
           have HFx := aK (fun (k : Nat) (hk : wv.heap.size ≤ k) => (⟨trivial, by have := blk_lt HXX.out; omega⟩ : True ∧ k ≠ bx))
           obtain ⟨ad2, ead2, hy0, hy1, hy2, hy3, hy4⟩ := at_T49 (Kd.C_below HR1.out HLx.out.1) (j : Int) (Int.natCast_nonneg j) (by omega)
           cases ead2
           rw [Int.toNat_natCast] at hy2
           have HY2 := aK (fun (w1 : World) (hb : Below w.heap.size w w1) => at_T49 (Kd.C_below HR1.out hb) (j : Int) (Int.natCast_nonneg j) (by omega))
           clear hi0 hy0 hy1 hy3 hy4
           refine start_ (n := 14) (S := (fun w' => w'.cell? ⟨bx, 0, none⟩ = some (.int .i64 (rd_T49 l1 ((j + 1 : Nat) : Int)).f0) ∧ w'.cell? ⟨bx, 1, none⟩ = some (.int .i64 (rd_T49 l1 ((j + 1 : Nat) : Int)).f1) ∧ w'.cell? ⟨bx, 2, none⟩ = some (.int .i64 (rd_T49 l1 ((j + 1 : Nat) : Int)).f2) ∧ w'.cell? ⟨bx, 3, none⟩ = some (.string (rd_T49 l1 ((j + 1 : Nat) : Int)).f3) ∧ w'.cell? ⟨bx, 4, none⟩ = some (.int .i64 (rd_T49 l1 ((j + 1 : Nat) : Int)).f4) ∧ w'.cell? ⟨(ad.add (j * 5)).block, (ad.add (j * 5)).off + 2, none⟩ = some (.int .i64 (rd_T49 l1 (j : Int)).f2))) (ds := []) #[false, false, false, false, false, false, false, false, false, false, false, false, false, false] (by kernel_rfl) rfl rfl ⟨hv0, hv1, hv2, hv3, hv4, hy2⟩ (fun hHeld => ?_)
           refine pure_ (i := 0) (N := some 58) (v := ?_) (a' := ?_) #[true, false, false, false, false, false, false, false, false, false, false, false, false, false] rfl rfl (by kernel_rfl) (fun _ _ _ h => h) (Or.inl ⟨by rfl, ?_⟩) ?_ ?_
           rotate_left
           · intro w'
             go_simp
             with_reducible rfl
           rotate_left
           · simp only [Act.put, List.setIfInBounds_toArray, List.set_cons_zero, List.set_cons_succ, i64_w, i32_w]
             rfl
           refine take_ (i := 1) (N := some 59) (v := ?_) (a' := ?_) #[true, true, false, false, false, false, false, false, false, false, false, false, false, false] rfl rfl (by kernel_rfl) (fun _ _ _ h => h) (Or.inl ⟨by rfl, ?_⟩) hHeld ?_ ?_
           rotate_left
           · rintro w' ⟨s0, s1, s2, s3, s4, s5⟩
             go_simp
             with_reducible rfl
           rotate_left
           · simp only [Act.put, List.setIfInBounds_toArray, List.set_cons_zero, List.set_cons_succ, i64_w, i32_w]
             rfl
           refine pure_ (i := 2) (N := some 60) (v := ?_) (a' := ?_) #[true, true, true, false, false, false, false, false, false, false, false, false, false, false] rfl rfl (by kernel_rfl) (fun _ _ _ h => h) (Or.inl ⟨by rfl, ?_⟩) ?_ ?_
           rotate_left
           · intro w'
             go_simp
             with_reducible rfl
           rotate_left
           · simp only [Act.put, List.setIfInBounds_toArray, List.set_cons_zero, List.set_cons_succ, i64_w, i32_w]
             rfl
           refine pure_ (i := 3) (N := some 61) (v := ?_) (a' := ?_) #[true, true, true, true, false, false, false, false, false, false, false, false, false, false] rfl rfl (by kernel_rfl) (fun _ _ _ h => h) (Or.inl ⟨by rfl, ?_⟩) ?_ ?_
           rotate_left
           · intro w'
             go_simp
             with_reducible rfl
           rotate_left
           · simp only [Act.put, List.setIfInBounds_toArray, List.set_cons_zero, List.set_cons_succ, i64_w, i32_w]
             rfl
           refine pure_ (i := 4) (N := some 62) (v := ?_) (a' := ?_) #[true, true, true, true, true, false, false, false, false, false, false, false, false, false] rfl rfl (by kernel_rfl) (fun _ _ _ h => h) (Or.inl ⟨by rfl, ?_⟩) ?_ ?_
           rotate_left
           · intro w'
             go_simp
             with_reducible rfl
           rotate_left
           · simp only [Act.put, List.setIfInBounds_toArray, List.set_cons_zero, List.set_cons_succ, i64_w, i32_w]
             rfl
           refine pure_ (i := 5) (N := some 63) (v := ?_) (a' := ?_) #[true, true, true, true, true, true, false, false, false, false, false, false, false, false] rfl rfl (by kernel_rfl) (fun _ _ _ h => h) (Or.inl ⟨by rfl, ?_⟩) ?_ ?_
           rotate_left
           · intro w'
             go_simp
             with_reducible rfl
           rotate_left
           · simp only [Act.put, List.setIfInBounds_toArray, List.set_cons_zero, List.set_cons_succ, i64_w, i32_w]
             rfl
           refine pure_ (i := 6) (N := some 64) (v := ?_) (a' := ?_) #[true, true, true, true, true, true, true, false, false, false, false, false, false, false] rfl rfl (by kernel_rfl) (fun _ _ _ h => h) (Or.inl ⟨by rfl, ?_⟩) ?_ ?_
           rotate_left
           · intro w'
             go_simp
             with_reducible rfl
           rotate_left
           · simp only [Act.put, List.setIfInBounds_toArray, List.set_cons_zero, List.set_cons_succ, i64_w, i32_w]
             rfl
           refine pure_ (i := 7) (N := some 65) (v := ?_) (a' := ?_) #[true, true, true, true, true, true, true, true, false, false, false, false, false, false] rfl rfl (by kernel_rfl) (fun _ _ _ h => h) (Or.inl ⟨by rfl, ?_⟩) ?_ ?_
           rotate_left
           · intro w'
             go_simp
             with_reducible rfl
           rotate_left
           · simp only [Act.put, List.setIfInBounds_toArray, List.set_cons_zero, List.set_cons_succ, i64_w, i32_w]
             rfl
           refine pure_ (i := 8) (N := some 66) (v := ?_) (a' := ?_) #[true, true, true, true, true, true, true, true, true, false, false, false, false, false] rfl rfl (by kernel_rfl) (fun _ _ _ h => h) (Or.inl ⟨by rfl, ?_⟩) ?_ ?_
           rotate_left
           · intro w'
             go_simp
             with_reducible rfl
           rotate_left
           · simp only [Act.put, List.setIfInBounds_toArray, List.set_cons_zero, List.set_cons_succ, i64_w, i32_w]
             rfl
           refine pure_ (i := 9) (N := some 67) (v := ?_) (a' := ?_) #[true, true, true, true, true, true, true, true, true, true, false, false, false, false] rfl rfl (by kernel_rfl) (fun _ _ _ h => h) (Or.inl ⟨by rfl, ?_⟩) ?_ ?_
           rotate_left
           · intro w'
             go_simp
             with_reducible rfl
           rotate_left
           · simp only [Act.put, List.setIfInBounds_toArray, List.set_cons_zero, List.set_cons_succ, i64_w, i32_w]
             rfl
           refine take_ (i := 10) (N := some 68) (v := ?_) (a' := ?_) #[true, true, true, true, true, true, true, true, true, true, true, false, false, false] rfl rfl (by kernel_rfl) (fun _ _ _ h => h) (Or.inl ⟨by rfl, ?_⟩) hHeld ?_ ?_
           rotate_left
           · rintro w' ⟨s0, s1, s2, s3, s4, s5⟩
             go_simp
             with_reducible rfl
           rotate_left
           · simp only [Act.put, List.setIfInBounds_toArray, List.set_cons_zero, List.set_cons_succ, i64_w, i32_w]
             rfl
           refine pure_ (i := 11) (N := some 69) (v := ?_) (a' := ?_) #[true, true, true, true, true, true, true, true, true, true, true, true, false, false] rfl rfl (by kernel_rfl) (fun _ _ _ h => h) (Or.inl ⟨by rfl, ?_⟩) ?_ ?_
           rotate_left
           · intro w'
             go_simp
             with_reducible rfl
           rotate_left
           · simp only [Act.put, List.setIfInBounds_toArray, List.set_cons_zero, List.set_cons_succ, i64_w, i32_w]
             rfl
           refine pure_ (i := 12) (N := some 70) (v := ?_) (a' := ?_) #[true, true, true, true, true, true, true, true, true, true, true, true, true, false] rfl rfl (by kernel_rfl) (fun _ _ _ h => h) (Or.inl ⟨by rfl, ?_⟩) ?_ ?_
           rotate_left
           · intro w'
             go_simp
             with_reducible rfl
           rotate_left
           · simp only [Act.put, List.setIfInBounds_toArray, List.set_cons_zero, List.set_cons_succ, i64_w, i32_w]
             rfl
           refine one_ (i := 13) (N := some 71) #[true, true, true, true, true, true, true, true, true, true, true, true, true, true] rfl rfl (by kernel_rfl) (by decide) (fun K hK => ?_)
           refine goes_ Try.func37 (by kernel_rfl) rfl #[.pointer (some ⟨g, 0, none⟩), .agg #[.int .i64 (rd_T49 l1 ((j + 1 : Nat) : Int)).f0, .int .i64 (rd_T49 l1 ((j + 1 : Nat) : Int)).f1, .int .i64 (rd_T49 l1 ((j + 1 : Nat) : Int)).f2, .string (rd_T49 l1 ((j + 1 : Nat) : Int)).f3, .int .i64 (rd_T49 l1 ((j + 1 : Nat) : Int)).f4], .bool ((rd_T49 l1 (j : Int)).f2 == 1)] (by rfl) rfl rfl (by (try simp only [List.map_toArray, List.map_cons, List.map_nil]); first | done | rfl) ?_
           refine (line_item.calls (fun k => True ∧ k ≠ bx) g a0_0 o _ _ _ _ _ ((rd_T49 l1 (j : Int)).f2 == 1) o3 w _ HLx.out.drew HFx.out HI3.out).mono ?_
           rintro e' w1 ⟨rfl, hL_, hk_⟩
           refine ⟨_, rfl, ?_⟩
           have HX1 := aK (blk_kept (W := wv.drew) HXX.out hk_ (fun h => h.elim (fun h => h.2 rfl) HNG.out))
           have HLn := aK (hL_.mono (P' := fun _ => True) (fun _ _ => trivial))
           obtain ⟨ad3, ead3, hz0_, hz1_, hxn, hz3_, hz4_⟩ := HY2.out w1 HLn.out.1
           cases ead3
           rw [Int.toNat_natCast] at hxn
           clear hz0_ hz1_ hz3_ hz4_
           refine hK.out _ _ ⟨(blk_cell HX1.out 0).trans rfl, (blk_cell HX1.out 1).trans rfl, (blk_cell HX1.out 2).trans rfl, (blk_cell HX1.out 3).trans rfl, (blk_cell HX1.out 4).trans rfl, hxn⟩ (fun hHeld => ?_)
           clear hK hk_ hL_ hHeld
           refine done_ (by kernel_rfl) ?_
           simp only [Act.put, List.setIfInBounds_toArray, List.set_cons_zero, List.set_cons_succ]
           have e9 : ((((j + 1) + 1 : Nat) : Int) == 0 || (rd_T49 l1 ((((j + 1) + 1 : Nat) : Int) - 1)).f2 == 1) = ((rd_T49 l1 ((j + 1 : Nat) : Int)).f2 == 1) := i2c_Encode.flag l1 (j + 1)
           have HIn := aK (show i2c_Encode.items a0_0 ((((j + 1) + 1 : Nat) : Int) == 0 || (rd_T49 l1 ((((j + 1) + 1 : Nat) : Int) - 1)).f2 == 1) (l1.drop ((j + 1) + 1)) o3 = some o2 from by rw [e9]; exact HI4.out)
           clear e9 HI4
           go_wp2
           go_roundg n
           case rel => exact ⟨o3, (j + 1) + 1, by omega, (by first | rfl | (rw [e10]; rfl) | (simp only [e10])), HIn, HLn⟩
           case measure => omega
      | succ n =>
       have hlt : i < l1.length := by omega
       have hcons := i2c_Encode.drop_cons l1 hlt
       have h9 := HC.out
       rw [hcons] at h9
       obtain ⟨e3, h3, h4⟩ := Option.bind_eq_some_iff.1 h9
       have HC3 := aK h3
       have HC4 := aK h4
       clear HC hcons h9 h3 h4
       have f3 : decide ((i : Int) < (l1.length : Int)) = true := decide_eq_true (by omega)
       have f3b : decide (i < l1.length) = true := decide_eq_true hlt
       have e4 : wrap64 ((i : Int) + 1) = ((i + 1 : Nat) : Int) := by have := HL1.out; unfold wrap64; omega
       have e5 : IntKind.i64.wrap ((i : Int) + 1) = ((i + 1 : Nat) : Int) := (i64_w _).trans e4
       have e6 : wrap64 ((l1.length : Int) - 1) = (l1.length : Int) - 1 := by have := HL1.out; unfold wrap64; omega
       have e7 : IntKind.i64.wrap ((l1.length : Int) - 1) = (l1.length : Int) - 1 := (i64_w _).trans e6
       obtain ⟨ad, ead, hx0, hx1, hx2, hx3, hx4⟩ := at_T49 (Kd.C_below HR1.out HB.out) (i : Int) (Int.natCast_nonneg i) (by omega)
       cases ead
       rw [Int.toNat_natCast] at hx0 hx1 hx2 hx3 hx4
       go_upto_region 10 with ((with_reducible refine gate_dst (N := 37) rfl ?_); refine goesL_ (some 37) rfl rfl Try.func35 (by kernel_rfl) rfl #[.agg #[.int .i64 (rd_T49 l1 (i : Int)).f0, .int .i64 (rd_T49 l1 (i : Int)).f1, .int .i64 (rd_T49 l1 (i : Int)).f2, .string (rd_T49 l1 (i : Int)).f3, .int .i64 (rd_T49 l1 (i : Int)).f4], .bool ((i : Int) == (l1.length : Int) - 1)] rfl (by (try simp only [List.map_toArray, List.map_cons, List.map_nil]); first | done | rfl) ?_; (with_reducible refine (i2c_check.calls k _ _ _ _ _ _ e3 _ HC3.out).mono ?_); rintro e' w1 ⟨rfl, hb⟩; refine ⟨_, rfl, ?_⟩; have HB1 := aK (below_then (below_alloc HB.out (.cells #[.int .i64 (rd_T49 l1 (i : Int)).f0, .int .i64 (rd_T49 l1 (i : Int)).f1, .int .i64 (rd_T49 l1 (i : Int)).f2, .string (rd_T49 l1 (i : Int)).f3, .int .i64 (rd_T49 l1 (i : Int)).f4] 49 (0, 0))) (below_size (below_alloc HB.out (.cells #[.int .i64 (rd_T49 l1 (i : Int)).f0, .int .i64 (rd_T49 l1 (i : Int)).f1, .int .i64 (rd_T49 l1 (i : Int)).f2, .string (rd_T49 l1 (i : Int)).f3, .int .i64 (rd_T49 l1 (i : Int)).f4] 49 (0, 0)))) hb); have HX1 := aK (blk_below (blk_alloc HX.out (.cells #[.int .i64 (rd_T49 l1 (i : Int)).f0, .int .i64 (rd_T49 l1 (i : Int)).f1, .int .i64 (rd_T49 l1 (i : Int)).f2, .string (rd_T49 l1 (i : Int)).f3, .int .i64 (rd_T49 l1 (i : Int)).f4] 49 (0, 0))) hb); clear hb)
       by_cases c3 : e3 = 0
       · have e3b : (e3 != 0) = false := by simp [c3]
         have HC5 := aK ((if_pos c3).symm.trans HC4.out)
         clear HC4 c3
         go_wp2
         go_roundg n
         case rel => exact ⟨i + 1, by omega, rfl, HC5, HB1, HX1⟩
         case measure => omega
       · have e3b : (e3 != 0) = true := by simp [c3]
         obtain rfl := Option.some.inj ((if_neg c3).symm.trans HC4.out)
         obtain ⟨rfl, rfl⟩ := Prod.mk.inj (Option.some.inj ((if_neg c3).symm.trans HH.out))
         clear HC4 HH c3
         go_wp2
         go_ret2
         exact ⟨_, rfl, Kd.R_nil _ _ _ _ _, HB1.out⟩
 · have H := Option.some.inj ((if_neg c0).symm.trans h)
   have c0b : (e != 0) = true := by simp [c0]
   clear h c0
   obtain ⟨rfl, rfl⟩ := Prod.mk.inj H
   go_enter Try.func14, Try.ntmps14
   go_upto_region 1 with (fail)
   generalize (w.alloc (.cells #[.int .i64 a0_0] 23 (0, 0))) = wb at HB HX ⊢
   generalize w.heap.size = b0 at HX ⊢
   have hz0 : wb.cell? ⟨b0, 0, none⟩ = some (.int .i64 a0_0) := (blk_cell HX.out 0).trans rfl
   have hy0 := blk_frozen HX.out 0
   go_wp2_with ((with_reducible refine gate_dst (N := 17) rfl ?_); refine goesL_ (some 17) rfl rfl Try.func10 (by kernel_rfl) rfl #[.agg #[.int .i64 a0_0]] rfl (by (try simp only [List.map_toArray, List.map_cons, List.map_nil]); first | done | rfl) ?_; (with_reducible refine (i2c_Check.calls a0_0 e _ HE.out).mono ?_); rintro e' w1 ⟨rfl, hb⟩; refine ⟨_, rfl, ?_⟩; have HB_ := HB; clear HB HX hz0 hy0; have HB := aK (below_then HB_.out (below_size HB_.out) hb); clear HB_ hb)
   go_ret2
   exact ⟨_, rfl, Kd.R_nil _ _ _ _ _, HB.out⟩
theorem i2c_Encode.chk_mono (n : Nat) : ∀ (l : List S49) (i k : Nat), LeO (i2c_Encode.chk k n i l) (i2c_Encode.chk (k + 1) n i l)
 | [], _, _ => LeO.refl _
 | x :: r, i, k => LeO.bind (i2c_check.mono _ _ _ _ _ _ k) (fun _ => LeO.ite (i2c_Encode.chk_mono n r (i + 1) k) (LeO.refl _))
theorem i2c_Encode.mono : ∀ a0 a1 k, LeO (i2c_Encode.f k a0 a1) (i2c_Encode.f (k + 1) a0 a1) := fun a0 a1 k =>
 LeO.bind (LeO.refl _) (fun _ => LeO.ite (LeO.ite (LeO.refl _) (LeO.bind (i2c_Encode.chk_mono _ _ _ k) (fun _ => LeO.refl _))) (LeO.refl _))

end Go.Proofs.Ytdbpablakhfdcaa.Q
