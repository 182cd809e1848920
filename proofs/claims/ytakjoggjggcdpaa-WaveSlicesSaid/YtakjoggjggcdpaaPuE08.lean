/- The laws WaveEdges, WaveReads, WaveMakes and WaveSlices as plain statements on lists: with enough rounds each answers true; conditions: each number is one of an int, no list is longer than its memory allows. -/
import Derived.Test.YtakjoggjggcdpaaPuW
import Derived.Test.YtakjoggjggcdpaaQx0
import Derived.Test.YtakjoggjggcdpaaQx2
import Derived.Test.YtakjoggjggcdpaaQx3
import Derived.Test.YtakjoggjggcdpaaQx4
import Derived.Test.YtakjoggjggcdpaaQx5
import Derived.Test.YtakjoggjggcdpaaQx8
import Derived.Test.YtakjoggjggcdpaaQx9
import Derived.Test.YtakjoggjggcdpaaQx10
namespace Go.Proofs.Ytakjoggjggcdpaa
open Go Go.RowKit Go.Proofs.YtakjoggjggcdpaaW.PrintWords Go.Proofs.YtakjoggjggcdpaaW.PrintLast Go.Proofs.Ytakjoggjggcdpaa.Q
set_option linter.unusedVariables false
theorem awake_ev : Ev (fun k => signalbenchlaw08_awake.f k) true := Ev.of (k := 40) (fun k => signalbenchlaw08_awake.mono k) (by decide +kernel)
theorem awake_then : Ev (fun k => (signalbenchlaw08_awake.f k).bind fun t => some t) true := Ev.bind awake_ev (Ev.now true)

/-! ### WaveEdges -/
theorem chk_edF : ∀ (l : List S39) (p at_ : Int) (d : Int), d < at_ → RunsOk l → chkE d (at_ + sm l) (edF p at_ l) = true
  | [], p, at_, d, h, hw => rfl
  | x :: l, p, at_, d, h, hw => by
    have hx := hw.cons
    have hs := sm_nonneg hx.2
    have e : at_ + sm (x :: l) = at_ + x.f1 + sm l := by
      simp only [sm]
      omega
    rw [e]
    unfold edF
    by_cases c : p = x.f0
    · rw [if_pos c]
      exact chk_edF l x.f0 (at_ + x.f1) d (by omega) hx.2
    · rw [if_neg c, chkE, if_pos (by omega)]
      exact chk_edF l x.f0 (at_ + x.f1) at_ (by omega) hx.2
theorem bld_edF : ∀ (l : List S39) (x : S39) (at_ : Int), (x.f0 = 0 ∨ x.f0 = 1) → 1 ≤ x.f1 → RunsOk l → bldE x.f0 at_ (at_ + x.f1 + sm l) (edF x.f0 (at_ + x.f1) l) = jnc x l
  | [], x, at_, h0, h1, hw => by
    simp only [sm, edF, bldE, jnc]
    rw [if_pos (by omega)]
    congr 1
    rw [show at_ + x.f1 + 0 - at_ = x.f1 by omega]
  | y :: l, x, at_, h0, h1, hw => by
    have hy := hw.cons
    have e : at_ + x.f1 + sm (y :: l) = at_ + x.f1 + y.f1 + sm l := by
      simp only [sm]
      omega
    rw [e]
    unfold edF jnc
    by_cases c : x.f0 = y.f0
    · rw [if_pos c, if_pos c]
      have ih := bld_edF l ⟨x.f0, x.f1 + y.f1⟩ at_ h0 (by simp only; omega) hy.2
      simp only at ih
      rw [← Int.add_assoc] at ih
      rw [← c]
      exact ih
    · rw [if_neg c, if_neg c, bldE]
      have ih := bld_edF l y (at_ + x.f1) hy.1.1 hy.1.2 hy.2
      have e0 : 1 - x.f0 = y.f0 := by omega
      rw [e0, ih]
      congr 1
      rw [show at_ + x.f1 - at_ = x.f1 by omega]
theorem edF_len : ∀ (l : List S39) (p at_ : Int), (edF p at_ l).length ≤ l.length
  | [], p, at_ => Nat.le_refl _
  | x :: l, p, at_ => by
    have := edF_len l x.f0 (at_ + x.f1)
    unfold edF
    split <;> simp only [List.length_cons] <;> omega
theorem fe_eds {x : S39} {l : List S39} (v : vld (x :: l) = true) : feV x.f0 (eds (x :: l)) (sm (x :: l)) = (jn (x :: l), 0) := by
  have hv := vld_iff.1 v
  have hx := hv.2.1.cons
  have hs := sm_nonneg hx.2
  have hl := hv.1
  have h2 := hv.2.2
  have h3 := edF_len l x.f0 x.f1
  simp only [List.length_cons] at hl
  simp only [sm] at h2
  unfold feV
  rw [if_pos hx.1.1, if_neg (by simp only [sm]; omega), if_neg (by simp only [eds]; omega)]
  have e1 : chkE 0 (sm (x :: l)) (eds (x :: l)) = true := chk_edF l x.f0 x.f1 0 (by omega) hx.2
  have e2 : bldE x.f0 0 (sm (x :: l)) (eds (x :: l)) = jn (x :: l) := by
    have := bld_edF l x 0 hx.1.1 hx.1.2 hx.2
    rw [Int.zero_add] at this
    exact this
  rw [if_pos e1, e2]
theorem WaveEdges_pure {l : List S39} (hw : RunsWf l) (hl : l.length ≤ 140737488351232) : ∃ k, signalbenchlaw08_WaveEdges.f k l = some true := by
  refine Ev.rounds (g := fun k => signalbenchlaw08_WaveEdges.f k l) ?_
  refine Ev.bind (wave_Valid_ev hw hl) ?_
  have stop : Ev (fun k => signalbenchlaw08_WaveEdges.j0 k l true) true := Ev.step (fun k => by
    simp only [signalbenchlaw08_WaveEdges.j0]
    rw [if_pos trivial]) awake_then
  by_cases v : vld l = true
  · simp only [if_pos v]
    cases l with
    | nil => exact stop
    | cons x l =>
      have hv := vld_iff.1 v
      have hx := hv.2.1.cons
      have hx1 := wf64 (hw x (by simp)).1
      have hat : atV (x :: l) 0 = (x.f0, true) := by
        unfold atV
        rw [if_neg (by omega), if_pos v, atS, if_pos (by omega)]
      have hlong : longV (x :: l) = sm (x :: l) := if_pos v
      have hed : edsV (x :: l) = eds (x :: l) := if_pos v
      have hcl : cleanV (x :: l) = jn (x :: l) := if_pos v
      have a1 := wave_At_ev hw hl (t := 0) (by decide)
      have a2 := wave_Edges_ev hw hl
      have a3 := wave_Long_ev hw hl
      have a4 := wave_Clean_ev hw hl
      rw [hat] at a1
      rw [hed] at a2
      rw [hlong] at a3
      rw [hcl] at a4
      have a5 := wave_FromEdges_ev (long := sm (x :: l)) (edges := eds (x :: l)) (hw x (by simp)).1
      rw [fe_eds v] at a5
      refine Ev.step (f := fun k => (wave_At.f k (x :: l) 0).bind fun bt182 => ((wave_Edges.f k (x :: l)).bind fun t184 => ((wave_Long.f k (x :: l)).bind fun t187 => ((wave_FromEdges.f k bt182.1 t184 t187).bind fun bt188 => (if bt182.2 = true then (if bt188.2 = 0 then ((wave_Clean.f k (x :: l)).bind fun t192 => ((signalbenchref08_Same.f k bt188.1 t192).bind fun t195 => (if t195 = true then ((signalbenchlaw08_awake.f k).bind fun t196 => (some t196)) else (some false)))) else (some false)) else (some false)))))) (fun k => ?_) ?_
      · simp only [signalbenchlaw08_WaveEdges.j0]
        rw [if_neg (by simp; omega)]
      · refine Ev.bind a1 (Ev.bind a2 (Ev.bind a3 (Ev.bind a5 ?_)))
        simp only [if_true]
        refine Ev.bind a4 (Ev.bind (ref_Same_ev _ ?_) ?_)
        · have := jn_len (x :: l)
          omega
        · simp only [if_true]
          exact awake_then
  · simp only [if_neg v]
    exact stop

/-! ### WaveReads -/
theorem WaveReads_pure {l : List S39} {t : Int} (hw : RunsWf l) (hl : l.length ≤ 140737488351232) (ht : (Lit.int .i64 t).wf = true) : ∃ k, signalbenchlaw08_WaveReads.f k l t = some true := by
  refine Ev.rounds (g := fun k => signalbenchlaw08_WaveReads.f k l t) ?_
  refine Ev.bind (wave_At_ev hw hl ht) (Ev.bind (ref_At_ev hw hl) ?_)
  simp only [if_true, bne_self_eq_false, Bool.false_eq_true, if_false]
  refine Ev.bind (wave_Valid_ev hw hl) (Ev.bind (ref_Valid_ev hw hl) ?_)
  simp only [bne_self_eq_false, Bool.false_eq_true, if_false]
  refine Ev.bind (wave_Long_ev hw hl) (Ev.bind (ref_Long_ev hw hl) ?_)
  simp only [bne_self_eq_false]
  refine Ev.step (f := fun k => (wave_Edges.f k l).bind fun t246 => ((signalbenchref08_Edges.f k l).bind fun t249 => ((signalbenchlaw08_ints.f k t246 t249).bind fun t252 => (if t252 = true then ((signalbenchlaw08_awake.f k).bind fun t253 => (some t253)) else (some false))))) (fun k => ?_) ?_
  · simp only [signalbenchlaw08_WaveReads.j0]
    rw [if_neg (by simp)]
  · refine Ev.bind (wave_Edges_ev hw hl) (Ev.bind (ref_Edges_ev hw hl) (Ev.bind (law_ints_ev _ ?_) ?_))
    · unfold edsV
      split
      · cases l with
        | nil => simp [eds]
        | cons x l =>
          have := edF_len l x.f0 x.f1
          simp only [eds, List.length_cons] at hl ⊢
          omega
      · simp
    · simp only [if_true]
      exact awake_then

/-! ### WaveMakes -/
theorem bldE_len : ∀ (es : List Int) (lev at_ long : Int), (bldE lev at_ long es : List S39).length ≤ es.length + 1
  | [], lev, at_, long => by
    unfold bldE
    split <;> simp
  | e :: es, lev, at_, long => by
    have := bldE_len es (1 - lev) e long
    simp only [bldE, List.length_cons]
    omega
theorem WaveMakes_pure {first long : Int} {edges : List Int} (hf : (Lit.int .i64 first).wf = true) : ∃ k, signalbenchlaw08_WaveMakes.f k first edges long = some true := by
  refine Ev.rounds (g := fun k => signalbenchlaw08_WaveMakes.f k first edges long) ?_
  refine Ev.bind (wave_FromEdges_ev hf) (Ev.bind ref_FromEdges_ev ?_)
  simp only [if_true]
  refine Ev.bind (ref_Same_ev _ ?_) ?_
  · unfold feV
    split
    · split
      · simp
      · split
        · simp
        · split
          · have := bldE_len edges first 0 long
            simp only
            omega
          · simp
    · simp
  · simp only [if_true]
    exact awake_then

/-! ### WaveSlices -/
theorem slF_len : ∀ (l : List S39) (a b at_ : Int), (slF a b at_ l).length ≤ l.length
  | [], a, b, at_ => Nat.le_refl _
  | x :: l, a, b, at_ => by
    have := slF_len l a b (at_ + x.f1)
    unfold slF
    split <;> simp only [List.length_cons] <;> omega
theorem sliceV_len (l : List S39) (a b : Int) : (sliceV l a b).length ≤ l.length := by
  unfold sliceV
  split
  · exact slF_len l a b 0
  · simp
theorem WaveSlices_pure {l : List S39} {a b : Int} (hw : RunsWf l) (hl : l.length ≤ 140737488351232) (hb : b ≤ 9223372036854775807) : ∃ k, signalbenchlaw08_WaveSlices.f k l a b = some true := by
  refine Ev.rounds (g := fun k => signalbenchlaw08_WaveSlices.f k l a b) ?_
  refine Ev.bind (wave_Slice_ev hw hl hb) (Ev.bind (ref_Slice_ev hw hl) (Ev.bind (ref_Same_ev _ ?_) ?_))
  · have := sliceV_len l a b
    omega
  · simp only [if_true]
    exact awake_then
end Go.Proofs.Ytakjoggjggcdpaa
