/- Go functions of the seat, each with a Lean function of the same answers; no condition beside those that each theorem bears. -/
import Derived.Test.YtllpgidmdomfcaaQx0
import Derived.Test.YtllpgidmdomfcaaQx2
import Derived.Test.YtllpgidmdomfcaaZp
namespace Go.Proofs.Ytllpgidmdomfcaa.Q
open Go.RowKit Go.Proofs.YtllpgidmdomfcaaW.PrintWords Go.Proofs.YtllpgidmdomfcaaW.PrintLast Go.Proofs.YtllpgidmdomfcaaW.PrintMore
attribute [local go_sem] max2_int min2_int max_two min_two max_three min_three max_four min_four
set_option linter.unusedVariables false
set_option linter.unusedSimpArgs false

section
open Go.Maps Go.WideMaps Go.ChangeMaps
/-! ### remap_twice: function 28 -/
def remap_twice.n (s : List UInt8) : List ByteArray → Nat
 | [] => 0
 | t :: l => (if t.data.toList = s then 1 else 0) + remap_twice.n s l
def remap_twice.f (l0 : List ByteArray) : Option Bool := if l0.all (fun s => decide (s.size ≤ 140737488351232)) = true then (if l0.length ≤ 140737488351232 then some (l0.any (fun s => decide (1 < remap_twice.n s.data.toList l0))) else none) else none
theorem remap_twice.n_app (s : List UInt8) : ∀ (a b : List ByteArray), remap_twice.n s (a ++ b) = remap_twice.n s a + remap_twice.n s b
 | [], b => by simp [remap_twice.n]
 | t :: a, b => by
  have := remap_twice.n_app s a b; simp only [List.cons_append, remap_twice.n]; omega
theorem remap_twice.n_le (s : List UInt8) : ∀ (l : List ByteArray), remap_twice.n s l ≤ l.length
 | [] => Nat.le_refl _
 | t :: l => by
  have := remap_twice.n_le s l; simp only [remap_twice.n, List.length_cons]; (split <;> omega)
theorem remap_twice.n_mem {s : List UInt8} : ∀ {l : List ByteArray}, 1 ≤ remap_twice.n s l → ∃ t ∈ l, t.data.toList = s
 | [], h => by simp [remap_twice.n] at h
 | t :: l, h => by
  by_cases c : t.data.toList = s
  ·exact ⟨t, by simp, c⟩
  ·simp only [remap_twice.n, if_neg c] at h; obtain ⟨u, hu, e⟩ := remap_twice.n_mem (s := s) (l := l) (by omega); exact ⟨u, by simp [hu], e⟩
theorem remap_twice.mem_n : ∀ {l : List ByteArray} {t : ByteArray}, t ∈ l → 1 ≤ remap_twice.n t.data.toList l
 | [], t, h => by simp at h
 | u :: l, t, h => by
  simp only [remap_twice.n]; rcases List.mem_cons.1 h with rfl | h
  ·rw [if_pos rfl]; omega
  ·have := remap_twice.mem_n h; omega
theorem remap_twice.law : Go.Maps.Keyed Try.prog 9 := Go.Maps.string_keyed Try.underlying9
theorem remap_twice.invK {key : Value} {kl : Lit} (h : keyOf Try.prog 9 key = some kl) : ∃ x, key = .string x := by
 cases key <;> simp [keyOf, Try.underlying9, mapKey] at h; exact ⟨_, rfl⟩
theorem remap_twice.zeroE (w : World) : (zeroValue 3).run Try.prog w = .ok (.int .i64 0) w := by kernel_rfl
set_option maxHeartbeats 8000000 in
set_option maxRecDepth 100000 in
theorem remap_twice.calls (A0 : Option Addr) (c0 : Nat) (l0 : List ByteArray) (r : Bool) (w : World) (hr0 : Kd.C Kd.string w A0 l0.length l0) (hc0 : l0.length ≤ c0) (h : remap_twice.f l0 = some r) :
 Calls Try.prog 28 #[.slice A0 l0.length c0] w fun e w' => e = .returned (.bool r) ∧ Below w.heap.size w w' := by
 unfold remap_twice.f at h; by_cases hs0 : l0.all (fun s => decide (s.size ≤ 140737488351232)) = true
 ·rw [if_pos hs0] at h; by_cases hl0 : l0.length ≤ 140737488351232
  ·rw [if_pos hl0] at h; (have hsz : ∀ s ∈ l0, s.size ≤ 140737488351232 := fun s hs => of_decide_eq_true (List.all_eq_true.1 hs0 s hs)); have er : l0.any (fun s => decide (1 < remap_twice.n s.data.toList l0)) = r := Option.some.inj h; clear h hs0 hc0; have hmm := @run_makeMap Try.prog; go_enter Try.func28, Try.ntmps28; go_wp2
   go_loopw [11] (fun i wr => ∃ (k : Nat) (D : DataW Unit), k ≤ l0.length ∧ i = .int .i64 (k : Int) ∧ wr.ownsMap Try.prog 9 (plainElem Try.prog 3) w.heap.size k D ∧ Go.Maps.IsMap D ∧ (∀ s : List UInt8, D.atKey (.string s) (.lit (.int .i64 0)) = .lit (.int .i64 ((remap_twice.n s (l0.take k) : Nat) : Int))) ∧ Below w.heap.size w wr)
    (fun i _ => l0.length - (intOf i).toNat)
   (case atStart => exact ⟨0, .map [], Nat.zero_le _, rfl, World.ownsMap_made _ _ _ _, Go.Maps.isMap_empty, fun s => rfl, (Below.refl _ _).alloc (Nat.le_refl _) _⟩)
   case round =>
    obtain ⟨k, D, hk, rfl, hown, hmap, hD, hnx⟩ := hrel; by_cases hlt : k < l0.length
    ·obtain ⟨s, hs⟩ : ∃ s, s = rdOf ByteArray.empty l0 (k : Int) := ⟨_, rfl⟩; obtain ⟨ad, ead, hx⟩ := Kd.at_string (Kd.C_below hr0 hnx) (k : Int) (Int.natCast_nonneg k) (by omega); cases ead; rw [← hs, Int.toNat_natCast] at hx
     have hel : l0[k]? = some s := by
      rw [hs]; simp [rdOf, List.getD, List.getElem?_eq_getElem hlt]
     have hss : s.size ≤ 140737488351232 := hsz s (List.mem_of_getElem? hel); have hkey : keyOf Try.prog 9 (.string s) = some (.string s.data.toList) := keyOf_string_mk Try.underlying9 (by unfold maxLen; omega); clear hs hsz; have hklt : decide ((k : Int) < (l0.length : Int)) = true := decide_eq_true (by omega)
     go_wp2_with (first
      | (at_lookup; refine wpList_lookup_own_int _ rfl _ _ 68 rfl 9 3 .i64 remap_twice.law Try.underlying68 Try.underlying3 (remap_twice.zeroE _) w.heap.size k D rfl hown _ _ rfl hkey ?_; intro c hat hwc)
      | (at_mapUpdate; refine wpList_mapUpdate_own _ rfl _ _ _ 68 rfl 9 3 remap_twice.law Try.underlying68 _ w.heap.size k D rfl hown (by unfold maxLen; omega) _ _ _ rfl rfl hkey _ [] (plainElem_int Try.underlying3 (wrap64_wf _)) ?_; intro w1 hown1 hgrow1)
      | go_in)
     have hc : c = ((remap_twice.n s.data.toList (l0.take k) : Nat) : Int) := by
      have h1 := hat.symm.trans (hD s.data.toList); injection h1 with h1; injection h1 with _ h1
     have hnk := remap_twice.n_le s.data.toList (l0.take k)
     have hlk : (l0.take k).length ≤ k := by
      rw [List.length_take]; omega
     have htk : l0.take (k + 1) = l0.take k ++ [s] := by
      rw [List.take_add_one, hel]; rfl
     refine ⟨⟨k + 1, _, by omega, by push_cast; rfl, hown1, hmap.put _ _, fun s' => ?_, hnx.grown hgrow1 hnx.size (fun j hj => by cases hj; exact Nat.le_refl _)⟩, by simp [intOf]; omega⟩; rw [htk, remap_twice.n_app]; by_cases e : s' = s.data.toList
     ·subst e; rw [atKey_put_same (k := Lit.string s.data.toList) hmap (show WideAt.IsKeyLit (Lit.string s.data.toList) from trivial), show remap_twice.n s.data.toList [s] = 1 by simp [remap_twice.n]]
      have hw : wrap64 (c + 1) = c + 1 := by
       unfold wrap64; omega
      rw [hw, hc]; norm_cast
     ·rw [atKey_put_other (fun h => e (by injection h)), hD s', show remap_twice.n s' [s] = 0 by (simp [remap_twice.n]; exact fun h => e h.symm)]; rfl
    ·have hklt : decide ((k : Int) < (l0.length : Int)) = false := decide_eq_false (by omega); have ek : l0.take k = l0 := List.take_of_length_le (by omega); rw [ek] at hD; clear hsz hr0; obtain ⟨wa, hwa⟩ : ∃ wa, wa = wr := ⟨_, rfl⟩; subst hwa
     go_wp2_with (first
      | (at_range; refine wpList_range_own _ rfl _ 68 rfl 9 3 remap_twice.law Try.underlying68 _ w.heap.size k D rfl hown ?_; intro w0 hrg0 hg0 hs0)
      | go_in)
     go_frame
     go_loopw [7] (fun _ wq => ∃ (left : Lit → Bool) (cnt : Nat), wq.ranges Try.prog 9 (plainElem Try.prog 3) w.heap.size wa.heap.size k D left cnt ∧ (∀ s : List UInt8, has D (.string s) = true → left (.string s) = false → remap_twice.n s l0 ≤ 1) ∧ Below w.heap.size w wq)
      (fun _ wq => wq.rangeLeft w.heap.size wa.heap.size)
     (case atStart => exact ⟨_, _, hrg0, (fun s h1 h2 => by rw [h1] at h2; cases h2), hnx.grown hg0 hnx.size (fun j hj => by cases hj)⟩)
     case round =>
      obtain ⟨left, cnt, hrg, hle, hnq⟩ := hrel
      go_wp2_with (first
       | (at_next; refine wpList_next_ranges _ rfl _ rfl 9 remap_twice.law (plainElem Try.prog 3) Value.string (Value.int .i64) (fun key kl hkey => remap_twice.invK hkey) (fun v y hv => by obtain ⟨c, rfl, _⟩ := plainElem_int_inv Try.underlying3 hv; exact ⟨c, rfl⟩) w.heap.size wa.heap.size k D left cnt rfl hrg ?_ ?_)
       | go_in)
      ·intro _ hl0'
       have ef : l0.any (fun s => decide (1 < remap_twice.n s.data.toList l0)) = false := by
        rw [List.any_eq_false]; intro s hs; have h1 := remap_twice.mem_n hs
        have h2 : has D (.string s.data.toList) = true := by
         cases hh : has D (.string s.data.toList) with
         | true => rfl
         | false =>
          have h3 := (atKey_of_not_has hh (.lit (.int .i64 0))).symm.trans (hD s.data.toList); injection h3 with h3; injection h3 with _ h3; omega
        have h4 := hle _ h2 (hl0' _); simp only [decide_eq_true_eq]; omega
       rw [ef] at er; subst er; go_wp2; go_ret; exact ⟨rfl, hnq⟩
      ·intro x c kl y ps w1 cnt1 hkey hlk hv hat hrg1 hlt hg1 hs1 hen
       have ekl : kl = .string x.data.toList := by
        simp [keyOf, Try.underlying9, mapKey] at hkey; exact hkey.2.symm
       subst ekl; obtain ⟨a, ea, ey, _⟩ := plainElem_int_inv Try.underlying3 hv; injection ea with _ ea; subst ea; simp only [Prod.mk.injEq] at ey
       have hc : c = ((remap_twice.n x.data.toList l0 : Nat) : Int) := by
        have h3 := ((hat (.lit (.int .i64 0))).trans ey.1).symm.trans (hD x.data.toList); injection h3 with h3; injection h3 with _ h3
       have hnw : Below w.heap.size w w1 := hnq.grown hg1 hnq.size (fun j hj => by
        cases hj; exact hnx.size)
       by_cases h2 : 1 < c
       ·have hd2 : decide (1 < c) = true := decide_eq_true h2
        have et : l0.any (fun s => decide (1 < remap_twice.n s.data.toList l0)) = true := by
         obtain ⟨t, ht, e⟩ := remap_twice.n_mem (s := x.data.toList) (l := l0) (by omega); rw [List.any_eq_true]; refine ⟨t, ht, ?_⟩; rw [e]; exact decide_eq_true (by omega)
        rw [et] at er; subst er; go_wp2; go_ret; exact ⟨rfl, hnw⟩
       ·have hd2 : decide (1 < c) = false := decide_eq_false h2; go_wp2; go_roundw
        case rel =>
         refine ⟨_, _, hrg1, fun s h3 h4 => ?_, hnw⟩; by_cases e : left (.string s) = true
         ·rw [e, Bool.true_and] at h4
          have h5 : Lit.string s = Lit.string x.data.toList := by
           apply Classical.byContradiction; intro hne; rw [sameKey_ne hne] at h4; cases h4
          injection h5 with h5; rw [h5]; omega
         ·exact hle s h3 (by simpa using e)
        case measure =>
         rw [hrg1.left_eq, hrg.left_eq]; exact hlt
  ·rw [if_neg hl0] at h; cases h
 ·rw [if_neg hs0] at h; cases h
end

/-! ### slices_Concat_string: function 27 -/
mutual
def slices_Concat_string.l0 : Nat → List (List ByteArray) → Int → List (List ByteArray) → Int → Int → Option (List ByteArray)
 | 0, _, _, _, _, _ => none
 | k + 1, x0, x3, x9, x10, x11 => if x11 < x10 then (if 0 ≤ x11 then (if x11 < (x9.length : Int) then (if (wrap64 (x3 + ((rd_L3 x9 x11).length : Int))) < 0 then (none) else (slices_Concat_string.l0 k x0 (wrap64 (x3 + ((rd_L3 x9 x11).length : Int))) x9 x10 (wrap64 (x11 + 1)))) else (none)) else (none)) else ((slices_Grow_string.f x3).bind fun t122 => (slices_Concat_string.l1 k t122 x0 (x0.length : Int) 0))
def slices_Concat_string.l1 : Nat → List ByteArray → List (List ByteArray) → Int → Int → Option (List ByteArray)
 | 0, _, _, _, _ => none
 | k + 1, x6, x25, x26, x27 => if x27 < x26 then (if 0 ≤ x27 then (if x27 < (x25.length : Int) then (if x6.length + (rd_L3 x25 x27).length < 8796093022208 then (slices_Concat_string.l1 k (x6 ++ (rd_L3 x25 x27)) x25 x26 (wrap64 (x27 + 1))) else (none)) else (none)) else (none)) else (some x6)
end
def slices_Concat_string.f (k : Nat) (l0 : List (List ByteArray)) : Option (List ByteArray) := slices_Concat_string.l0 k l0 0 l0 (l0.length : Int) 0
theorem slices_Concat_string.mono_l : ∀ k, (∀ y0 y1 y2 y3 y4, LeO (slices_Concat_string.l0 k y0 y1 y2 y3 y4) (slices_Concat_string.l0 (k + 1) y0 y1 y2 y3 y4)) ∧ (∀ y0 y1 y2 y3, LeO (slices_Concat_string.l1 k y0 y1 y2 y3) (slices_Concat_string.l1 (k + 1) y0 y1 y2 y3))
 | 0 => ⟨fun _ _ _ _ _ r h => by simp [slices_Concat_string.l0] at h, fun _ _ _ _ r h => by simp [slices_Concat_string.l1] at h⟩
 | k + 1 => by
  obtain ⟨ih0, ih1⟩ := slices_Concat_string.mono_l k; refine ⟨?_, ?_⟩
  ·intro y0 y1 y2 y3 y4; unfold slices_Concat_string.l0; (repeat' first | (with_reducible first | exact ih0 _ _ _ _ _ | exact ih1 _ _ _ _ | exact LeO.refl _ | exact LeO.none _ | refine LeO.ite ?_ ?_ | refine LeO.bind ?_ (fun _ => ?_)))
  ·intro y0 y1 y2 y3; unfold slices_Concat_string.l1; (repeat' first | (with_reducible first | exact ih0 _ _ _ _ _ | exact ih1 _ _ _ _ | exact LeO.refl _ | exact LeO.none _ | refine LeO.ite ?_ ?_ | refine LeO.bind ?_ (fun _ => ?_)))
theorem slices_Concat_string.mono : ∀ a0 k, LeO (slices_Concat_string.f k a0) (slices_Concat_string.f (k + 1) a0) := by
 intro a0 k; obtain ⟨ih0, ih1⟩ := slices_Concat_string.mono_l k; unfold slices_Concat_string.f; (repeat' first | (with_reducible first | exact ih0 _ _ _ _ _ | exact ih1 _ _ _ _ | exact LeO.refl _ | exact LeO.none _ | refine LeO.ite ?_ ?_ | refine LeO.bind ?_ (fun _ => ?_)))
set_option maxHeartbeats 8000000 in
set_option maxRecDepth 100000 in
theorem slices_Concat_string.calls (k : Nat) (A0 : Option Addr) (c0 : Nat) (l0 : List (List ByteArray)) (r : List ByteArray) (w : World) (hr0 : Kd.C (Kd.slice 9 Kd.string) w A0 l0.length l0) (hc0 : l0.length ≤ c0) (h : slices_Concat_string.f k l0 = some r) :
  Calls Try.prog 27 #[.slice A0 l0.length c0] w fun e w' => ∃ v0_ : Value, e = .returned (v0_) ∧ Kd.R Kd.string 9 w' w.heap.size (fun _ => True) v0_ r ∧ Below w.heap.size w w' := by
 have HR0 := aK hr0; have HC0 := aK hc0; clear hr0 hc0; have HB := aK (Below.refl w.heap.size w); have H : (slices_Concat_string.l0 k l0 0 l0 (l0.length : Int) 0) = some r := h; clear h; have H' := aK H; clear H; go_enter Try.func27, Try.ntmps27; go_wp2; go_loopg [3, 11] k (fun kq v3 v11 w' => ∃ (x3_1 : Int) (x11_1 : Int), v3 = .int .i64 x3_1 ∧ v11 = .int .i64 x11_1 ∧ Aside0 (slices_Concat_string.l0 kq l0 x3_1 l0 (l0.length : Int) x11_1 = some r) ∧ Aside0 (kq ≤ k) ∧ Aside0 (Below w.heap.size w w')); (case atStart => exact ⟨(0), (0), (by first | rfl | (simp; done) | (simp [*]; done)), (by first | rfl | (simp; done) | (simp [*]; done)), H', ⟨Nat.le_refl _⟩, ⟨bS HB.out⟩⟩)
 case round =>
  clear H'; obtain ⟨x3_1, x11_1, rfl, rfl, HA, HK1, HB⟩ := hrel
  cases gk with
  | zero => exact absurd HA.out (by simp [slices_Concat_string.l0])
  | succ k1 =>
   have H := HA.out; clear HA; simp only [slices_Concat_string.l0] at H; by_cases c2 : x11_1 < (l0.length : Int)
   ·rw [if_pos c2] at H; have c2b0 : decide (x11_1 < (l0.length : Int)) = true := decide_eq_true c2; clear c2; by_cases c3 : 0 ≤ x11_1
    ·rw [if_pos c3] at H; have c3b0 : decide (0 ≤ x11_1) = true := decide_eq_true c3; clear c3; by_cases c4 : x11_1 < (l0.length : Int)
     ·rw [if_pos c4] at H; have c4b0 : decide (x11_1 < (l0.length : Int)) = true := decide_eq_true c4; clear c4; by_cases c5 : (wrap64 (x3_1 + ((rd_L3 l0 x11_1).length : Int))) < 0
      ·rw [if_pos c5] at H; exact absurd H (by simp)
      ·rw [if_neg c5] at H; have c5b0 : decide ((wrap64 (x3_1 + ((rd_L3 l0 x11_1).length : Int))) < 0) = false := decide_eq_false c5; clear c5; have H' := aK H; clear H; have p121 : 0 ≤ (x11_1 : Int) := oD; have q121 : x11_1 < (l0.length : Int) := oD; obtain ⟨ad121, A121_0, c121_0, e121, hx121_0, hl121_0, hi121_0⟩ := at_L3 HR0.out x11_1 p121 q121; cases e121; replace hx121_0 := (HB.out.cell (World.block_lt_of_cell? w _ hx121_0)).trans hx121_0; have HR121_0 := aK hi121_0; have HC121_0 := aK hl121_0; clear hi121_0 hl121_0; replace p121 := eq_true p121; replace q121 := eq_true q121; go_wp2; go_roundg k1; (case measure => have := HK1.out; omega); (case rel => exact ⟨(wrap64 (x3_1 + ((rd_L3 l0 x11_1).length : Int))), (wrap64 (x11_1 + 1)), (by first | rfl | (simp; done) | (simp [*]; done)), (by first | rfl | (simp; done) | (simp [*]; done)), H', ⟨by have := HK1.out; omega⟩, ⟨bS HB.out⟩⟩)
     ·rw [if_neg c4] at H; exact absurd H (by simp)
    ·rw [if_neg c3] at H; exact absurd H (by simp)
   ·rw [if_neg c2] at H; have c2b0 : decide (x11_1 < (l0.length : Int)) = false := decide_eq_false c2; clear c2; replace H := Option.bind_eq_some_iff.mp H; obtain ⟨t122, A60, H⟩ := H; replace H : (slices_Concat_string.l1 k1 t122 l0 (l0.length : Int) 0) = some r := H; have A6 := aK A60; clear A60; have H' := aK H; clear H; go_wp2_with (first | ((with_reducible refine gate_callee (f := 51) rfl ?_); refine goesL_ (some 24) rfl rfl Try.func51 (by kernel_rfl) rfl #[.slice none 0 0, .int .i64 x3_1] rfl (by (try simp only [List.map_toArray, List.map_cons, List.map_nil]); first | done | rfl | (simp only [List.length_drop, List.length_take]; rfl)) ?_; (with_reducible refine (slices_Grow_string.calls x3_1 t122 _ A6.out).mono ?_); rintro e w7 ⟨v123, rfl, ho0, hb⟩; refine ⟨_, rfl, ?_⟩; have n_ := aN (Kd.R_lower ho0 (below_size (bS HB.out))) <| aK (below_step (bS HB.out) hb); clear HB; obtain ⟨HO124, HB⟩ := n_; (try clear hb); (try clear hb2); (try clear hk); (try clear hi); (try clear ho0))); go_loopg [6, 27] k1 (fun kq v6 v27 w' => ∃ (x6_2 : List ByteArray) (x27_2 : Int), v27 = .int .i64 x27_2 ∧ Aside0 (slices_Concat_string.l1 kq x6_2 l0 (l0.length : Int) x27_2 = some r) ∧ Aside0 (kq ≤ k1) ∧ Aside0 (Kd.R Kd.string 9 w' w.heap.size (fun _ => True) v6 x6_2) ∧ Aside0 (Below w.heap.size w w')); (case atStart => exact ⟨(t122), (0), (by first | rfl | (simp; done) | (simp [*]; done)), H', ⟨Nat.le_refl _⟩, ⟨rS HO124.out⟩, ⟨bS HB.out⟩⟩)
    case round =>
     clear H'; (try clear c1); (try clear p1); (try clear q1); (try clear hx1); (try clear c2); (try clear c2b0); (try clear p2); (try clear c3); (try clear c3b0); (try clear c4); (try clear c4b0); (try clear c5); (try clear c5b0); (try clear p6); (try clear hx121_0); (try clear p121); (try clear q121); obtain ⟨x6_2, x27_2, rfl, HA, HK2, HO_6, HB⟩ := hrel
     cases gk with
     | zero => exact absurd HA.out (by simp [slices_Concat_string.l1])
     | succ k2 =>
      have H := HA.out; clear HA; simp only [slices_Concat_string.l1] at H; by_cases c8 : x27_2 < (l0.length : Int)
      ·rw [if_pos c8] at H; have c8b0 : decide (x27_2 < (l0.length : Int)) = true := decide_eq_true c8; clear c8; by_cases c9 : 0 ≤ x27_2
       ·rw [if_pos c9] at H; have c9b0 : decide (0 ≤ x27_2) = true := decide_eq_true c9; clear c9; by_cases c10 : x27_2 < (l0.length : Int)
        ·rw [if_pos c10] at H; have c10b0 : decide (x27_2 < (l0.length : Int)) = true := decide_eq_true c10; clear c10; by_cases c11 : x6_2.length + (rd_L3 l0 x27_2).length < 8796093022208
         ·rw [if_pos c11] at H; have LMc11 := aK c11; clear c11; obtain ⟨y126, hy126⟩ : ∃ y_ : List ByteArray, y_ = (x6_2 ++ (rd_L3 l0 x27_2)) := ⟨_, rfl⟩; (replace H : (slices_Concat_string.l1 k2 y126 l0 (l0.length : Int) (wrap64 (x27_2 + 1))) = some r := by first | (rw [hy126]; with_reducible exact H) | (have H2_ := (Option.bind_some _ _).symm.trans H; rw [hy126]; with_reducible exact H2_) | (have H2_ := (Option.bind_some _ _).symm.trans H; with_reducible exact H2_) | with_reducible exact H | (rw [hy126]; exact H) | exact H); have Ny126 := aK hy126; clear hy126; have H' := aK H; clear H; have p125 : 0 ≤ (x27_2 : Int) := oD; have q125 : x27_2 < (l0.length : Int) := oD; obtain ⟨ad125, A125_0, c125_0, e125, hx125_0, hl125_0, hi125_0⟩ := at_L3 HR0.out x27_2 p125 q125; cases e125; replace hx125_0 := (HB.out.cell (World.block_lt_of_cell? w _ hx125_0)).trans hx125_0; have HR125_0 := aK hi125_0; have HC125_0 := aK hl125_0; clear hi125_0 hl125_0; replace p125 := eq_true p125; replace q125 := eq_true q125; go_wp2_with (first | ((with_reducible refine gate_builtin (b := .append) (xs := #[.tmp 31, .tmp 32]) rfl ?_); at_builtin; refine Kd.R_append_rows Kd.string (w0 := w) w.heap.size rfl (.tmp 31) (.tmp 32) 22 9 (.string ⟨#[]⟩) 16 rfl Try.underlying22 info9 rfl (by decide) (by omega) u6 x6_2 (rd_L3 l0 x27_2) _ _ _ (fun _ => True) (fun _ => False) rfl rfl ?aO ?aR (fun _ _ h => h) (fun _ h => h.elim) ?aF ?aB ?aS ?aL ?_; (case aR => exact cS (Kd.C_below HR125_0.out HB.out)); (case aB => exact (bS HB.out)); (case aF => exact (fun _ _ => trivial)); (case aO => exact (rS HO_6.out)); (case aS => exact (below_size (bS HB.out))); (case aL => have := LMc11.out; omega); intro v127 w12 ho hb hg hat; rw [← Ny126.out] at ho; have n_ := aN (hb) <| aK (ho); clear HB HO_6; obtain ⟨HB, HO128⟩ := n_; clear ho hb hg hat)); go_roundg k2; (case measure => have := HK1.out; have := HK2.out; omega); (case rel => exact ⟨(y126), (wrap64 (x27_2 + 1)), (by first | rfl | (simp; done) | (simp [*]; done)), H', ⟨by have := HK1.out; have := HK2.out; omega⟩, ⟨rS HO128.out⟩, ⟨bS HB.out⟩⟩)
         ·rw [if_neg c11] at H; exact absurd H (by simp)
        ·rw [if_neg c10] at H; exact absurd H (by simp)
       ·rw [if_neg c9] at H; exact absurd H (by simp)
      ·rw [if_neg c8] at H; have c8b0 : decide (x27_2 < (l0.length : Int)) = false := decide_eq_false c8; clear c8; obtain rfl := Option.some.inj H; go_wp2; go_ret; exact ⟨_, by first | rfl | (simp [errW_none, errW_some] <;> rfl) | (simp [*, errW_none, errW_some] <;> rfl), rS HO_6.out, bS HB.out⟩

end Go.Proofs.Ytllpgidmdomfcaa.Q
