/- For each Go function that the seat's laws reach: a Lean function with the same answers, and the proof that the Go code comes to them. Made by a program of this session over the translation; no condition beside those that each theorem bears. -/
import Derived.Test.YtllpgidmdomfcaaQx0
namespace Go.Proofs.Ytllpgidmdomfcaa.Q
open Go.RowKit Go.Proofs.YtllpgidmdomfcaaW.PrintWords Go.Proofs.YtllpgidmdomfcaaW.PrintLast Go.Proofs.YtllpgidmdomfcaaW.PrintMore
attribute [local go_sem] max2_int min2_int max_two min_two max_three min_three max_four min_four   -- for this text's walks alone
set_option linter.unusedVariables false
set_option linter.unusedSimpArgs false

section
open Go.Maps Go.WideMaps Go.ChangeMaps
/-! ### remap_twice: function 28 -/
def remap_twice.n (s : List UInt8) : List ByteArray → Nat
 | [] => 0
 | t :: l => (if t.data.toList = s then 1 else 0) + remap_twice.n s l
def remap_twice.f (l0 : List ByteArray) : Option Bool := if l0.all (fun s => decide (s.size ≤ 140737488351232)) = true then (if l0.length ≤ 140737488351232 then some (l0.any (fun s => decide (1 < remap_twice.n s.data.toList l0))) else none) else none
theorem remap_twice.n_app (s : List UInt8) : ∀ (a b : List ByteArray), remap_twice.n s (a ++ b) = remap_twice.n s a + remap_twice.n s b
 | [], b => by simp [remap_twice.n]
 | t :: a, b => by
  have := remap_twice.n_app s a b
  simp only [List.cons_append, remap_twice.n]
  omega
theorem remap_twice.n_le (s : List UInt8) : ∀ (l : List ByteArray), remap_twice.n s l ≤ l.length
 | [] => Nat.le_refl _
 | t :: l => by
  have := remap_twice.n_le s l
  simp only [remap_twice.n, List.length_cons]
  split <;> omega
theorem remap_twice.n_mem {s : List UInt8} : ∀ {l : List ByteArray}, 1 ≤ remap_twice.n s l → ∃ t ∈ l, t.data.toList = s
 | [], h => by simp [remap_twice.n] at h
 | t :: l, h => by
  by_cases c : t.data.toList = s
  ·exact ⟨t, by simp, c⟩
  ·simp only [remap_twice.n, if_neg c] at h
   obtain ⟨u, hu, e⟩ := remap_twice.n_mem (s := s) (l := l) (by omega)
   exact ⟨u, by simp [hu], e⟩
theorem remap_twice.mem_n : ∀ {l : List ByteArray} {t : ByteArray}, t ∈ l → 1 ≤ remap_twice.n t.data.toList l
 | [], t, h => by simp at h
 | u :: l, t, h => by
  simp only [remap_twice.n]
  rcases List.mem_cons.1 h with rfl | h
  ·rw [if_pos rfl]
   omega
  ·have := remap_twice.mem_n h
   omega
theorem remap_twice.law : Go.Maps.Keyed Try.prog 9 := Go.Maps.string_keyed Try.underlying9
theorem remap_twice.invK {key : Value} {kl : Lit} (h : keyOf Try.prog 9 key = some kl) : ∃ x, key = .string x := by
 cases key <;> simp [keyOf, Try.underlying9, mapKey] at h
 exact ⟨_, rfl⟩
theorem remap_twice.zeroE (w : World) : (zeroValue 3).run Try.prog w = .ok (.int .i64 0) w := by kernel_rfl
set_option maxHeartbeats 8000000 in
set_option maxRecDepth 100000 in
theorem remap_twice.calls (A0 : Option Addr) (c0 : Nat) (l0 : List ByteArray) (r : Bool) (w : World) (hr0 : Kd.C Kd.string w A0 l0.length l0) (hc0 : l0.length ≤ c0) (h : remap_twice.f l0 = some r) :
 Calls Try.prog 28 #[.slice A0 l0.length c0] w fun e w' => e = .returned (.bool r) ∧ Below w.heap.size w w' := by
 unfold remap_twice.f at h
 by_cases hs0 : l0.all (fun s => decide (s.size ≤ 140737488351232)) = true
 ·rw [if_pos hs0] at h
  by_cases hl0 : l0.length ≤ 140737488351232
  ·rw [if_pos hl0] at h
   have hsz : ∀ s ∈ l0, s.size ≤ 140737488351232 := fun s hs => of_decide_eq_true (List.all_eq_true.1 hs0 s hs)
   have er : l0.any (fun s => decide (1 < remap_twice.n s.data.toList l0)) = r := Option.some.inj h
   clear h hs0 hc0
   have hmm := @run_makeMap Try.prog
   go_enter Try.func28, Try.ntmps28
   go_wp2
   go_loopw [11] (fun i wr => ∃ (k : Nat) (D : DataW Unit), k ≤ l0.length ∧ i = .int .i64 (k : Int) ∧ wr.ownsMap Try.prog 9 (plainElem Try.prog 3) w.heap.size k D ∧ Go.Maps.IsMap D ∧ (∀ s : List UInt8, D.atKey (.string s) (.lit (.int .i64 0)) = .lit (.int .i64 ((remap_twice.n s (l0.take k) : Nat) : Int))) ∧ Below w.heap.size w wr)
    (fun i _ => l0.length - (intOf i).toNat)
   case atStart => exact ⟨0, .map [], Nat.zero_le _, rfl, World.ownsMap_made _ _ _ _, Go.Maps.isMap_empty, fun s => rfl, (Below.refl _ _).alloc (Nat.le_refl _) _⟩
   case round =>
    obtain ⟨k, D, hk, rfl, hown, hmap, hD, hnx⟩ := hrel
    by_cases hlt : k < l0.length
    ·obtain ⟨s, hs⟩ : ∃ s, s = rdOf ByteArray.empty l0 (k : Int) := ⟨_, rfl⟩
     obtain ⟨ad, ead, hx⟩ := Kd.at_string (Kd.C_below hr0 hnx) (k : Int) (Int.natCast_nonneg k) (by omega)
     cases ead
     rw [← hs, Int.toNat_natCast] at hx
     have hel : l0[k]? = some s := by
      rw [hs]
      simp [rdOf, List.getD, List.getElem?_eq_getElem hlt]
     have hss : s.size ≤ 140737488351232 := hsz s (List.mem_of_getElem? hel)
     have hkey : keyOf Try.prog 9 (.string s) = some (.string s.data.toList) := keyOf_string_mk Try.underlying9 (by unfold maxLen; omega)
     clear hs hsz
     have hklt : decide ((k : Int) < (l0.length : Int)) = true := decide_eq_true (by omega)
     go_wp2_with (first
      | (at_lookup; refine wpList_lookup_own_int _ rfl _ _ 68 rfl 9 3 .i64 remap_twice.law Try.underlying68 Try.underlying3 (remap_twice.zeroE _) w.heap.size k D rfl hown _ _ rfl hkey ?_; intro c hat hwc)
      | (at_mapUpdate; refine wpList_mapUpdate_own _ rfl _ _ _ 68 rfl 9 3 remap_twice.law Try.underlying68 _ w.heap.size k D rfl hown (by unfold maxLen; omega) _ _ _ rfl rfl hkey _ [] (plainElem_int Try.underlying3 (wrap64_wf _)) ?_; intro w1 hown1 hgrow1)
      | go_in)
     have hc : c = ((remap_twice.n s.data.toList (l0.take k) : Nat) : Int) := by
      have h1 := hat.symm.trans (hD s.data.toList)
      injection h1 with h1
      injection h1 with _ h1
     have hnk := remap_twice.n_le s.data.toList (l0.take k)
     have hlk : (l0.take k).length ≤ k := by
      rw [List.length_take]
      omega
     have htk : l0.take (k + 1) = l0.take k ++ [s] := by
      rw [List.take_add_one, hel]
      rfl
     refine ⟨⟨k + 1, _, by omega, by push_cast; rfl, hown1, hmap.put _ _, fun s' => ?_, hnx.grown hgrow1 hnx.size (fun j hj => by cases hj; exact Nat.le_refl _)⟩, by simp [intOf]; omega⟩
     rw [htk, remap_twice.n_app]
     by_cases e : s' = s.data.toList
     ·subst e
      rw [atKey_put_same (k := Lit.string s.data.toList) hmap (show WideAt.IsKeyLit (Lit.string s.data.toList) from trivial), show remap_twice.n s.data.toList [s] = 1 by simp [remap_twice.n]]
      have hw : wrap64 (c + 1) = c + 1 := by
       unfold wrap64
       omega
      rw [hw, hc]
      norm_cast
     ·rw [atKey_put_other (fun h => e (by injection h)), hD s', show remap_twice.n s' [s] = 0 by (simp [remap_twice.n]; exact fun h => e h.symm)]
      rfl
    ·have hklt : decide ((k : Int) < (l0.length : Int)) = false := decide_eq_false (by omega)
     have ek : l0.take k = l0 := List.take_of_length_le (by omega)
     rw [ek] at hD
     clear hsz hr0
     obtain ⟨wa, hwa⟩ : ∃ wa, wa = wr := ⟨_, rfl⟩
     subst hwa
     go_wp2_with (first
      | (at_range; refine wpList_range_own _ rfl _ 68 rfl 9 3 remap_twice.law Try.underlying68 _ w.heap.size k D rfl hown ?_; intro w0 hrg0 hg0 hs0)
      | go_in)
     go_frame
     go_loopw [7] (fun _ wq => ∃ (left : Lit → Bool) (cnt : Nat), wq.ranges Try.prog 9 (plainElem Try.prog 3) w.heap.size wa.heap.size k D left cnt ∧ (∀ s : List UInt8, has D (.string s) = true → left (.string s) = false → remap_twice.n s l0 ≤ 1) ∧ Below w.heap.size w wq)
      (fun _ wq => wq.rangeLeft w.heap.size wa.heap.size)
     case atStart => exact ⟨_, _, hrg0, (fun s h1 h2 => by rw [h1] at h2; cases h2), hnx.grown hg0 hnx.size (fun j hj => by cases hj)⟩
     case round =>
      obtain ⟨left, cnt, hrg, hle, hnq⟩ := hrel
      go_wp2_with (first
       | (at_next; refine wpList_next_ranges _ rfl _ rfl 9 remap_twice.law (plainElem Try.prog 3) Value.string (Value.int .i64) (fun key kl hkey => remap_twice.invK hkey) (fun v y hv => by obtain ⟨c, rfl, _⟩ := plainElem_int_inv Try.underlying3 hv; exact ⟨c, rfl⟩) w.heap.size wa.heap.size k D left cnt rfl hrg ?_ ?_)
       | go_in)
      ·intro _ hl0'
       have ef : l0.any (fun s => decide (1 < remap_twice.n s.data.toList l0)) = false := by
        rw [List.any_eq_false]
        intro s hs
        have h1 := remap_twice.mem_n hs
        have h2 : has D (.string s.data.toList) = true := by
         cases hh : has D (.string s.data.toList) with
         | true => rfl
         | false =>
          have h3 := (atKey_of_not_has hh (.lit (.int .i64 0))).symm.trans (hD s.data.toList)
          injection h3 with h3
          injection h3 with _ h3
          omega
        have h4 := hle _ h2 (hl0' _)
        simp only [decide_eq_true_eq]
        omega
       rw [ef] at er
       subst er
       go_wp2
       go_ret
       exact ⟨rfl, hnq⟩
      ·intro x c kl y ps w1 cnt1 hkey hlk hv hat hrg1 hlt hg1 hs1 hen
       have ekl : kl = .string x.data.toList := by
        simp [keyOf, Try.underlying9, mapKey] at hkey
        exact hkey.2.symm
       subst ekl
       obtain ⟨a, ea, ey, _⟩ := plainElem_int_inv Try.underlying3 hv
       injection ea with _ ea
       subst ea
       simp only [Prod.mk.injEq] at ey
       have hc : c = ((remap_twice.n x.data.toList l0 : Nat) : Int) := by
        have h3 := ((hat (.lit (.int .i64 0))).trans ey.1).symm.trans (hD x.data.toList)
        injection h3 with h3
        injection h3 with _ h3
       have hnw : Below w.heap.size w w1 := hnq.grown hg1 hnq.size (fun j hj => by
        cases hj
        exact hnx.size)
       by_cases h2 : 1 < c
       ·have hd2 : decide (1 < c) = true := decide_eq_true h2
        have et : l0.any (fun s => decide (1 < remap_twice.n s.data.toList l0)) = true := by
         obtain ⟨t, ht, e⟩ := remap_twice.n_mem (s := x.data.toList) (l := l0) (by omega)
         rw [List.any_eq_true]
         refine ⟨t, ht, ?_⟩
         rw [e]
         exact decide_eq_true (by omega)
        rw [et] at er
        subst er
        go_wp2
        go_ret
        exact ⟨rfl, hnw⟩
       ·have hd2 : decide (1 < c) = false := decide_eq_false h2
        go_wp2
        go_roundw
        case rel =>
         refine ⟨_, _, hrg1, fun s h3 h4 => ?_, hnw⟩
         by_cases e : left (.string s) = true
         ·rw [e, Bool.true_and] at h4
          have h5 : Lit.string s = Lit.string x.data.toList := by
           apply Classical.byContradiction
           intro hne
           rw [sameKey_ne hne] at h4
           cases h4
          injection h5 with h5
          rw [h5]
          omega
         ·exact hle s h3 (by simpa using e)
        case measure =>
         rw [hrg1.left_eq, hrg.left_eq]
         exact hlt
  ·rw [if_neg hl0] at h
   cases h
 ·rw [if_neg hs0] at h
  cases h
end

end Go.Proofs.Ytllpgidmdomfcaa.Q
