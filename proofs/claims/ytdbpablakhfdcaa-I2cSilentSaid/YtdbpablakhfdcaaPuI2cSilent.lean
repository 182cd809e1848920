/- The law I2cSilent as a plain statement on numbers and lists: with enough rounds it answers true; conditions: each number is one of its kind, no list or string is longer than its memory allows. -/
import Derived.Laws.BitsAllLaws
import Derived.WalkKit
import Derived.Test.YtdbpablakhfdcaaWMore
import Derived.Test.YtdbpablakhfdcaaQx0
import Derived.Test.YtdbpablakhfdcaaQx4
import Derived.Test.YtdbpablakhfdcaaQx6
import Derived.Test.YtdbpablakhfdcaaQx12
import Derived.Test.YtdbpablakhfdcaaQx14
import Derived.Test.YtdbpablakhfdcaaQx15
import Derived.Test.YtdbpablakhfdcaaQx16
import Derived.Test.YtdbpablakhfdcaaQx17
import Derived.Test.YtdbpablakhfdcaaQx18
import Derived.Test.YtdbpablakhfdcaaQx22
import Derived.Test.YtdbpablakhfdcaaQx26
import Derived.Test.YtdbpablakhfdcaaQx27
import Derived.Test.YtdbpablakhfdcaaQx29
import Derived.Test.YtdbpablakhfdcaaQx32
namespace Go.Proofs.Ytdbpablakhfdcaa
open Go Go.RowKit Go.Proofs.YtdbpablakhfdcaaW.PrintWords Go.Proofs.YtdbpablakhfdcaaW.PrintLast Go.Proofs.Ytdbpablakhfdcaa.Q
set_option linter.unusedVariables false
theorem w64 {x : Int} (h0 : -9223372036854775808 ≤ x) (h1 : x ≤ 9223372036854775807) : wrap64 x = x := by
  unfold wrap64
  omega
theorem succ_mid {α : Type} (pre : List α) (x : α) (h : pre.length ≤ 9223372036854775806) : wrap64 ((pre.length : Int) + 1) = ((pre ++ [x]).length : Int) := by
  rw [w64 (by omega) (by omega)]
  simp
theorem mid_snoc {α : Type} (pre post : List α) (x : α) : pre ++ x :: post = (pre ++ [x]) ++ post := by simp
abbrev EvT := S27
structure StT where
  f0 : Int
  f1 : Int
  f2 : Int
  f3 : Int
  f4 : Int
  f5 : Int
  f6 : Int
  f7 : ByteArray
def chgV (was is : Int) : Int :=
  if was % 2 = 1 ∧ is % 2 = 1 ∧ was / 2 = 1 ∧ is / 2 = 0 then 1
  else if was % 2 = 1 ∧ is % 2 = 1 ∧ was / 2 = 0 ∧ is / 2 = 1 then 2
  else if was % 2 = 0 ∧ is % 2 = 1 then 3 else 0
def auxV (a v : Int) (d : Nat) : Int := (if a / 2 % 2 = 1 then 1 else a % 2) + 2 * (if v = 0 then 0 else 1) + 4 * (if d ≤ 4096 then a / 4 % 2 else 1)
def bitV (s : StT) (v : Int) : StT :=
  if s.f3 < 8 then ⟨s.f0, s.f1, s.f2, s.f3 + 1, 2 * s.f4 + v, s.f5, s.f6, s.f7⟩
  else ⟨s.f0, s.f1, s.f2, 0, 0, auxV s.f5 v s.f7.size, s.f6, if s.f7.size ≤ 4096 then s.f7 ++ ⟨#[UInt8.ofNat s.f4.toNat]⟩ else s.f7⟩
def fltV (s : StT) : Int := if s.f5 / 4 % 2 = 1 then 8 else if s.f3 > 1 then 7 else if s.f5 % 2 = 1 then 10 else if s.f5 / 2 % 2 = 1 ∧ ¬ (s.f7.size > 1 ∧ (s.f7.get! 0).toNat % 2 = 1) then 10 else 0
def frmV (s : StT) (en stop : Int) : EvT := ⟨5, s.f2, en, if s.f7.size = 0 then -1 else ((s.f7.get! 0).toNat : Int), stop, s.f7.extract 1 s.f7.size, fltV s⟩
def goV (s : StT) (a b v : Int) : StT × List EvT :=
  if s.f0 = 0 then (⟨1, b, 0, 0, 0, 0, v, (⟨#[]⟩ : ByteArray)⟩, [])
  else if chgV s.f6 v = 1 then (⟨2, b, a, 0, 0, 0, v, (⟨#[]⟩ : ByteArray)⟩, if s.f0 = 2 then [frmV s a 0] else [])
  else if chgV s.f6 v = 2 then (⟨1, b, 0, 0, 0, 0, v, (⟨#[]⟩ : ByteArray)⟩, if s.f0 = 2 then [frmV s a 1] else [])
  else if chgV s.f6 v = 3 ∧ s.f0 = 2 then (bitV ⟨s.f0, b, s.f2, s.f3, s.f4, s.f5, v, s.f7⟩ (v / 2), [])
  else (⟨s.f0, b, s.f2, s.f3, s.f4, s.f5, v, s.f7⟩, [])
theorem bitV_prev (s : StT) (v : Int) : (bitV s v).f6 = s.f6 ∧ (bitV s v).f0 = s.f0 ∧ (bitV s v).f1 = s.f1 := by
  unfold bitV
  split <;> exact ⟨rfl, rfl, rfl⟩
theorem goV_end (s : StT) (a b v : Int) : (goV s a b v).1.f6 = v ∧ (goV s a b v).1.f0 ≠ 0 ∧ (goV s a b v).1.f1 = b := by
  unfold goV
  split
  · exact ⟨rfl, (by decide : (1 : Int) ≠ 0), rfl⟩
  · split
    · exact ⟨rfl, (by decide : (2 : Int) ≠ 0), rfl⟩
    · split
      · exact ⟨rfl, (by decide : (1 : Int) ≠ 0), rfl⟩
      · split
        · obtain ⟨h1, h2, h3⟩ := bitV_prev ⟨s.f0, b, s.f2, s.f3, s.f4, s.f5, v, s.f7⟩ (v / 2)
          exact ⟨h1, by rw [h2]; assumption, h3⟩
        · exact ⟨rfl, by assumption, rfl⟩
theorem snoc_cases {α : Type} (o : List α) : o = [] ∨ ∃ q y, o = q ++ [y] := by
  rcases List.eq_nil_or_concat o with h | ⟨q, y, h⟩
  · exact .inl h
  · exact .inr ⟨q, y, by simpa using h⟩
theorem toList_eq (d : ByteArray) : d.toList.toArray = d.data ∧ (d.toList = [] ↔ d.size = 0) ∧ d.toList.length = d.size := by
  have e : d.toList = d.data.toList := by simp [ByteArray.toList_eq]
  refine ⟨by rw [e], ?_, by rw [e]; rfl⟩
  rw [e]
  exact ⟨fun h => by show d.data.toList.length = 0; rw [h]; rfl, fun h => List.length_eq_zero_iff.mp h⟩
theorem ev_from {α : Type} {g : Nat → Option α} {r : α} (n : Nat) (h : ∀ k, g (k + n) = some r) : Ev g r :=
  ⟨n, fun k hk => by have := h (k - n); rwa [show k - n + n = k by omega] at this⟩
abbrev TupT := Int × Int × Int × Int × Int × Int × Int × ByteArray
def pk (s : StT) (o : List EvT) : Int × Int × Int × Int × Int × Int × Int × ByteArray × List EvT := (s.f0, s.f1, s.f2, s.f3, s.f4, s.f5, s.f6, s.f7, o)
abbrev okC (c : Int) : Prop := 1 ≤ c ∧ c ≤ 1048576
abbrev validP (x : EvT) : Prop := (1 ≤ x.f0 ∧ x.f0 ≤ 8) ∧ (0 ≤ x.f1 ∧ x.f1 ≤ x.f2 ∧ x.f2 ≤ 1099511627776) ∧ (-9007199254740992 ≤ x.f3 ∧ x.f3 ≤ 9007199254740992) ∧ (-9007199254740992 ≤ x.f4 ∧ x.f4 ≤ 9007199254740992) ∧ x.f5.size ≤ 4096 ∧ (0 ≤ x.f6 ∧ x.f6 ≤ 12)
abbrev accP (s : StT) (x : EvT) : Prop := validP x ∧ x.f0 = 1 ∧ x.f6 = 0 ∧ x.f1 < x.f2 ∧ (0 ≤ x.f3 ∧ x.f3 ≤ 3) ∧ (s.f0 = 0 ∨ x.f1 = s.f1)
def stepV (c : Int) (s : StT) (x : EvT) : StT × List EvT := if okC c ∧ accP s x then goV s x.f1 x.f2 x.f3 else (s, [])
def check_i2c (c : Int) : Int := if okC c then 0 else 2
theorem check_eq (c : Int) : i2c_Check.f c = some (check_i2c c) ∧ signalbenchref23_Check.f c = some (check_i2c c) := by
  unfold i2c_Check.f signalbenchref23_Check.f check_i2c okC
  by_cases h0 : c < 1
  · rw [if_pos h0, if_neg (by omega)]
    exact ⟨rfl, rfl⟩
  · rw [if_neg h0]
    by_cases h1 : c > 1048576
    · rw [if_pos h1, if_neg (by omega)]
      exact ⟨rfl, rfl⟩
    · rw [if_neg h1, if_pos (by omega)]
      exact ⟨rfl, rfl⟩
theorem check_ok {c : Int} (h : okC c) : check_i2c c = 0 := if_pos h
theorem check_no {c : Int} (h : ¬ okC c) : check_i2c c = 2 := if_neg h
theorem evValid_eq (k : Nat) (x : EvT) : event_Valid.f (k + 2) x.f0 x.f1 x.f2 x.f3 x.f4 x.f5 x.f6 = some (decide (validP x)) := by
  unfold event_Valid.f
  by_cases c1 : x.f0 < 1
  · rw [decide_eq_false (p := validP x) (fun h => by obtain ⟨⟨a1, a2⟩, ⟨b1, b2, b3⟩, ⟨d1, d2⟩, ⟨e1, e2⟩, g, ⟨i1, i2⟩⟩ := h; omega)]
    rw [if_pos c1]
    rfl
  · rw [if_neg c1]
    by_cases c2 : x.f0 > 8
    · rw [decide_eq_false (p := validP x) (fun h => by obtain ⟨⟨a1, a2⟩, ⟨b1, b2, b3⟩, ⟨d1, d2⟩, ⟨e1, e2⟩, g, ⟨i1, i2⟩⟩ := h; omega)]
      rw [decide_eq_true c2]
      rfl
    · rw [decide_eq_false c2]
      simp only [event_Valid.j0, if_neg Bool.false_ne_true]
      by_cases c3 : x.f1 < 0
      · rw [decide_eq_false (p := validP x) (fun h => by obtain ⟨⟨a1, a2⟩, ⟨b1, b2, b3⟩, ⟨d1, d2⟩, ⟨e1, e2⟩, g, ⟨i1, i2⟩⟩ := h; omega)]
        rw [if_pos c3]
        rfl
      · rw [if_neg c3]
        by_cases c4 : x.f1 > x.f2
        · rw [decide_eq_false (p := validP x) (fun h => by obtain ⟨⟨a1, a2⟩, ⟨b1, b2, b3⟩, ⟨d1, d2⟩, ⟨e1, e2⟩, g, ⟨i1, i2⟩⟩ := h; omega)]
          rw [if_pos c4]
          rfl
        · rw [if_neg c4]
          by_cases c5 : x.f2 > 1099511627776
          · rw [decide_eq_false (p := validP x) (fun h => by obtain ⟨⟨a1, a2⟩, ⟨b1, b2, b3⟩, ⟨d1, d2⟩, ⟨e1, e2⟩, g, ⟨i1, i2⟩⟩ := h; omega)]
            rw [decide_eq_true c5]
            rfl
          · rw [decide_eq_false c5]
            simp only [event_Valid.j1, if_neg Bool.false_ne_true]
            by_cases c6 : x.f3 < -9007199254740992
            · rw [decide_eq_false (p := validP x) (fun h => by obtain ⟨⟨a1, a2⟩, ⟨b1, b2, b3⟩, ⟨d1, d2⟩, ⟨e1, e2⟩, g, ⟨i1, i2⟩⟩ := h; omega)]
              rw [if_pos c6]
            · rw [if_neg c6]
              by_cases c7 : x.f3 > 9007199254740992
              · rw [decide_eq_false (p := validP x) (fun h => by obtain ⟨⟨a1, a2⟩, ⟨b1, b2, b3⟩, ⟨d1, d2⟩, ⟨e1, e2⟩, g, ⟨i1, i2⟩⟩ := h; omega)]
                rw [if_pos c7]
              · rw [if_neg c7]
                by_cases c8 : x.f4 < -9007199254740992
                · rw [decide_eq_false (p := validP x) (fun h => by obtain ⟨⟨a1, a2⟩, ⟨b1, b2, b3⟩, ⟨d1, d2⟩, ⟨e1, e2⟩, g, ⟨i1, i2⟩⟩ := h; omega)]
                  rw [if_pos c8]
                · rw [if_neg c8]
                  by_cases c9 : x.f4 > 9007199254740992
                  · rw [decide_eq_false (p := validP x) (fun h => by obtain ⟨⟨a1, a2⟩, ⟨b1, b2, b3⟩, ⟨d1, d2⟩, ⟨e1, e2⟩, g, ⟨i1, i2⟩⟩ := h; omega)]
                    rw [if_pos c9]
                  · rw [if_neg c9]
                    by_cases c10 : (x.f5.size : Int) > 4096
                    · rw [decide_eq_false (p := validP x) (fun h => by obtain ⟨⟨a1, a2⟩, ⟨b1, b2, b3⟩, ⟨d1, d2⟩, ⟨e1, e2⟩, g, ⟨i1, i2⟩⟩ := h; omega)]
                      rw [if_neg (by omega)]
                    · rw [if_pos (by omega)]
                      by_cases c11 : x.f6 < 0
                      · rw [decide_eq_false (p := validP x) (fun h => by obtain ⟨⟨a1, a2⟩, ⟨b1, b2, b3⟩, ⟨d1, d2⟩, ⟨e1, e2⟩, g, ⟨i1, i2⟩⟩ := h; omega)]
                        rw [if_neg (by omega)]
                      · rw [if_pos (by omega)]
                        by_cases c12 : x.f6 > 12
                        · rw [decide_eq_false (p := validP x) (fun h => by obtain ⟨⟨a1, a2⟩, ⟨b1, b2, b3⟩, ⟨d1, d2⟩, ⟨e1, e2⟩, g, ⟨i1, i2⟩⟩ := h; omega)]
                          rw [decide_eq_false (by omega)]
                        · rw [decide_eq_true (by omega), decide_eq_true (show validP x from ⟨by omega, by omega, by omega, by omega, by omega, by omega⟩)]
theorem refValid_eq (x : EvT) : signalbenchref07_Valid.f x.f0 x.f1 x.f2 x.f3 x.f4 x.f5 x.f6 = some (decide (validP x)) := by
  unfold signalbenchref07_Valid.f
  by_cases c1 : x.f0 < 1
  · rw [decide_eq_false (p := validP x) (fun h => by obtain ⟨⟨a1, a2⟩, ⟨b1, b2, b3⟩, ⟨d1, d2⟩, ⟨e1, e2⟩, g, ⟨i1, i2⟩⟩ := h; omega)]
    rw [if_pos c1]
  · rw [if_neg c1]
    by_cases c2 : x.f0 > 8
    · rw [decide_eq_false (p := validP x) (fun h => by obtain ⟨⟨a1, a2⟩, ⟨b1, b2, b3⟩, ⟨d1, d2⟩, ⟨e1, e2⟩, g, ⟨i1, i2⟩⟩ := h; omega)]
      rw [if_pos c2]
    · rw [if_neg c2]
      by_cases c3 : x.f1 < 0
      · rw [decide_eq_false (p := validP x) (fun h => by obtain ⟨⟨a1, a2⟩, ⟨b1, b2, b3⟩, ⟨d1, d2⟩, ⟨e1, e2⟩, g, ⟨i1, i2⟩⟩ := h; omega)]
        rw [if_pos c3]
      · rw [if_neg c3]
        by_cases c4 : x.f1 > x.f2
        · rw [decide_eq_false (p := validP x) (fun h => by obtain ⟨⟨a1, a2⟩, ⟨b1, b2, b3⟩, ⟨d1, d2⟩, ⟨e1, e2⟩, g, ⟨i1, i2⟩⟩ := h; omega)]
          rw [if_pos c4]
        · rw [if_neg c4]
          by_cases c5 : x.f2 > 1099511627776
          · rw [decide_eq_false (p := validP x) (fun h => by obtain ⟨⟨a1, a2⟩, ⟨b1, b2, b3⟩, ⟨d1, d2⟩, ⟨e1, e2⟩, g, ⟨i1, i2⟩⟩ := h; omega)]
            rw [if_pos c5]
          · rw [if_neg c5]
            by_cases c10 : (x.f5.size : Int) > 4096
            · rw [decide_eq_false (p := validP x) (fun h => by obtain ⟨⟨a1, a2⟩, ⟨b1, b2, b3⟩, ⟨d1, d2⟩, ⟨e1, e2⟩, g, ⟨i1, i2⟩⟩ := h; omega)]
              rw [if_pos c10]
            · rw [if_neg c10]
              by_cases c11 : x.f6 < 0
              · rw [decide_eq_false (p := validP x) (fun h => by obtain ⟨⟨a1, a2⟩, ⟨b1, b2, b3⟩, ⟨d1, d2⟩, ⟨e1, e2⟩, g, ⟨i1, i2⟩⟩ := h; omega)]
                rw [if_pos c11]
              · rw [if_neg c11]
                by_cases c12 : x.f6 > 12
                · rw [decide_eq_false (p := validP x) (fun h => by obtain ⟨⟨a1, a2⟩, ⟨b1, b2, b3⟩, ⟨d1, d2⟩, ⟨e1, e2⟩, g, ⟨i1, i2⟩⟩ := h; omega)]
                  rw [if_pos c12]
                · rw [if_neg c12]
                  by_cases c6 : x.f3 < -9007199254740992
                  · rw [decide_eq_false (p := validP x) (fun h => by obtain ⟨⟨a1, a2⟩, ⟨b1, b2, b3⟩, ⟨d1, d2⟩, ⟨e1, e2⟩, g, ⟨i1, i2⟩⟩ := h; omega)]
                    rw [if_neg (by omega)]
                  · rw [if_pos (by omega)]
                    by_cases c7 : x.f3 > 9007199254740992
                    · rw [decide_eq_false (p := validP x) (fun h => by obtain ⟨⟨a1, a2⟩, ⟨b1, b2, b3⟩, ⟨d1, d2⟩, ⟨e1, e2⟩, g, ⟨i1, i2⟩⟩ := h; omega)]
                      rw [if_neg (by omega)]
                    · rw [if_pos (by omega)]
                      by_cases c8 : x.f4 < -9007199254740992
                      · rw [decide_eq_false (p := validP x) (fun h => by obtain ⟨⟨a1, a2⟩, ⟨b1, b2, b3⟩, ⟨d1, d2⟩, ⟨e1, e2⟩, g, ⟨i1, i2⟩⟩ := h; omega)]
                        rw [if_neg (by omega)]
                      · rw [if_pos (by omega)]
                        by_cases c9 : x.f4 > 9007199254740992
                        · rw [decide_eq_false (p := validP x) (fun h => by obtain ⟨⟨a1, a2⟩, ⟨b1, b2, b3⟩, ⟨d1, d2⟩, ⟨e1, e2⟩, g, ⟨i1, i2⟩⟩ := h; omega)]
                          rw [decide_eq_false (by omega)]
                        · rw [decide_eq_true (by omega), decide_eq_true (show validP x from ⟨by omega, by omega, by omega, by omega, by omega, by omega⟩)]
theorem acc_tail (s : StT) (x : EvT) : (if decide (validP x) = true then (if x.f0 = 1 then (if x.f6 = 0 then (if x.f1 ≥ x.f2 then (some false) else (if x.f3 < 0 then (some false) else (if x.f3 > 3 then (some false) else (if s.f0 = 0 then (some true) else (some (x.f1 == s.f1)))))) else (some false)) else (some false)) else (some false)) = some (decide (accP s x)) := by
  by_cases hv : validP x
  · rw [if_pos (decide_eq_true hv)]
    by_cases h1 : x.f0 = 1
    · rw [if_pos h1]
      by_cases h2 : x.f6 = 0
      · rw [if_pos h2]
        by_cases h3 : x.f1 ≥ x.f2
        · rw [if_pos h3, decide_eq_false (fun h => by have := h.2.2.2.1; omega)]
        · rw [if_neg h3]
          by_cases h4 : x.f3 < 0
          · rw [if_pos h4, decide_eq_false (fun h => by have := h.2.2.2.2.1; omega)]
          · rw [if_neg h4]
            by_cases h5 : x.f3 > 3
            · rw [if_pos h5, decide_eq_false (fun h => by have := h.2.2.2.2.1; omega)]
            · rw [if_neg h5]
              by_cases h6 : s.f0 = 0
              · rw [if_pos h6, decide_eq_true (show accP s x from ⟨hv, h1, h2, by omega, by omega, .inl h6⟩)]
              · rw [if_neg h6]
                by_cases h7 : x.f1 = s.f1
                · rw [decide_eq_true (show accP s x from ⟨hv, h1, h2, by omega, by omega, .inr h7⟩), beq_iff_eq.mpr h7]
                · rw [decide_eq_false (fun h : accP s x => by have := h.2.2.2.2.2; omega), beq_eq_false_iff_ne.mpr h7]
      · rw [if_neg h2, decide_eq_false (fun h => h2 h.2.2.1)]
    · rw [if_neg h1, decide_eq_false (fun h => h1 h.2.1)]
  · rw [if_neg (by simp [hv]), decide_eq_false (fun h => hv h.1)]
theorem accepted_eq (k : Nat) (s : StT) (x : EvT) : i2c_accepted.f (k + 2) s.f0 s.f1 s.f2 s.f3 s.f4 s.f5 s.f6 s.f7 x.f0 x.f1 x.f2 x.f3 x.f4 x.f5 x.f6 = some (decide (accP s x)) := by
  unfold i2c_accepted.f
  rw [evValid_eq, Option.bind_some]
  exact acc_tail s x
theorem four {a : Int} (h : 0 ≤ a ∧ a ≤ 3) : a = 0 ∨ a = 1 ∨ a = 2 ∨ a = 3 := by omega
theorem change_eq (k : Nat) {a b : Int} (ha : 0 ≤ a ∧ a ≤ 3) (hb : 0 ≤ b ∧ b ≤ 3) : i2c_change.f (k + 2) a b = some (chgV a b) := by
  rcases four ha with rfl | rfl | rfl | rfl <;> rcases four hb with rfl | rfl | rfl | rfl <;> rfl
def SegI (s : StT) : Prop := (0 ≤ s.f3 ∧ s.f3 ≤ 8) ∧ (0 ≤ s.f4 ∧ s.f4 < 2 ^ s.f3.toNat) ∧ (0 ≤ s.f5 ∧ s.f5 ≤ 7) ∧ s.f7.size ≤ 4097
def Inv (s : StT) : Prop := (0 ≤ s.f6 ∧ s.f6 ≤ 3) ∧ (s.f0 = 2 → SegI s)
theorem pow8 {n : Int} (h : 0 ≤ n ∧ n ≤ 8) {a : Int} (ha : a < 2 ^ n.toNat) : a ≤ 255 := by
  have h1 : n.toNat ≤ 8 := by omega
  have h2 : (2 : Nat) ^ n.toNat ≤ 2 ^ 8 := Nat.pow_le_pow_right (by decide) h1
  have h3 : ((2 : Int) ^ n.toNat) = ((2 ^ n.toNat : Nat) : Int) := by push_cast; rfl
  omega
theorem auxV_bound {a v : Int} (d : Nat) (h : 0 ≤ a ∧ a ≤ 7) : 0 ≤ auxV a v d ∧ auxV a v d ≤ 7 := by
  unfold auxV
  split <;> split <;> split <;> omega
theorem bitV_segI {s : StT} (h : SegI s) {v : Int} (hv : v = 0 ∨ v = 1) : SegI (bitV s v) := by
  obtain ⟨h3, h4, h5, h7⟩ := h
  unfold bitV
  by_cases c : s.f3 < 8
  · rw [if_pos c]
    refine ⟨⟨by show 0 ≤ s.f3 + 1; omega, by show s.f3 + 1 ≤ 8; omega⟩, ⟨by show 0 ≤ 2 * s.f4 + v; omega, ?_⟩, h5, h7⟩
    show 2 * s.f4 + v < 2 ^ (s.f3 + 1).toNat
    rw [show (s.f3 + 1).toNat = s.f3.toNat + 1 by omega, Int.pow_succ]
    omega
  · rw [if_neg c]
    refine ⟨⟨Int.le_refl 0, (by decide : (0 : Int) ≤ 8)⟩, ⟨Int.le_refl 0, (by decide : (0 : Int) < 2 ^ (0 : Int).toNat)⟩, auxV_bound _ h5, ?_⟩
    show (if s.f7.size ≤ 4096 then s.f7 ++ (⟨#[UInt8.ofNat s.f4.toNat]⟩ : ByteArray) else s.f7).size ≤ 4097
    split
    · rw [ByteArray.size_append]
      show s.f7.size + 1 ≤ 4097
      omega
    · exact h7
theorem goV_inv {s : StT} (h : Inv s) {a b v : Int} (hv : 0 ≤ v ∧ v ≤ 3) : Inv (goV s a b v).1 := by
  unfold goV
  by_cases c0 : s.f0 = 0
  · rw [if_pos c0]
    exact ⟨hv, fun h => absurd h (by decide : ¬ (1 : Int) = 2)⟩
  · rw [if_neg c0]
    by_cases c1 : chgV s.f6 v = 1
    · rw [if_pos c1]
      exact ⟨hv, fun _ => ⟨⟨Int.le_refl 0, (by decide : (0 : Int) ≤ 8)⟩, ⟨Int.le_refl 0, (by decide : (0 : Int) < 2 ^ (0 : Int).toNat)⟩, ⟨Int.le_refl 0, (by decide : (0 : Int) ≤ 7)⟩, (by decide : (0 : Nat) ≤ 4097)⟩⟩
    · rw [if_neg c1]
      by_cases c2 : chgV s.f6 v = 2
      · rw [if_pos c2]
        exact ⟨hv, fun h => absurd h (by decide : ¬ (1 : Int) = 2)⟩
      · rw [if_neg c2]
        by_cases c3 : chgV s.f6 v = 3 ∧ s.f0 = 2
        · rw [if_pos c3]
          have hs : SegI ⟨s.f0, b, s.f2, s.f3, s.f4, s.f5, v, s.f7⟩ := h.2 c3.2
          obtain ⟨e1, e2, e3⟩ := bitV_prev ⟨s.f0, b, s.f2, s.f3, s.f4, s.f5, v, s.f7⟩ (v / 2)
          exact ⟨by rw [e1]; exact hv, fun _ => bitV_segI hs (by omega)⟩
        · rw [if_neg c3]
          exact ⟨hv, h.2⟩
theorem eight {a : Int} (h : 0 ≤ a ∧ a ≤ 7) : a = 0 ∨ a = 1 ∨ a = 2 ∨ a = 3 ∨ a = 4 ∨ a = 5 ∨ a = 6 ∨ a = 7 := by omega
def tp (s : StT) : TupT := (s.f0, s.f1, s.f2, s.f3, s.f4, s.f5, s.f6, s.f7)
theorem bit_eq (k : Nat) {s : StT} (h : SegI s) {v : Int} (hv : v = 0 ∨ v = 1) : i2c_bit.f (k + 1) s.f0 s.f1 s.f2 s.f3 s.f4 s.f5 s.f6 s.f7 v = some (tp (bitV s v)) := by
  have hp := pow8 h.1 h.2.1.2
  obtain ⟨h3, h4, h5, h7⟩ := h
  unfold i2c_bit.f bitV tp
  rw [w64 (x := s.f3 + 1) (by omega) (by omega)]
  by_cases c : s.f3 < 8
  · rw [if_pos (by omega), if_pos c, w64 (x := 2 * s.f4) (by omega) (by omega), w64 (by omega) (by omega)]
  · have e8 : s.f3 = 8 := by omega
    have e4 : s.f4 % 256 = s.f4 := by omega
    have es : strOfNums [s.f4] = ⟨#[UInt8.ofNat s.f4.toNat]⟩ := rfl
    rw [if_neg (by omega), if_neg c]
    simp only [i2c_bit.j0, Option.bind_some, e4, es]
    have hz : s.f7.size ≤ 4096 → s.f7.size + (⟨#[UInt8.ofNat s.f4.toNat]⟩ : ByteArray).size ≤ 9223372036854775807 := fun hh => by
      show s.f7.size + 1 ≤ _
      omega
    by_cases cs : s.f7.size ≤ 4096
    · have cs' : (s.f7.size : Int) ≤ 4096 := by omega
      have hz' := hz cs
      simp only [cs, cs', hz', if_true, auxV]
      rcases eight h5 with e | e | e | e | e | e | e | e <;> rw [e] <;> rcases hv with rfl | rfl <;> rfl
    · have cs' : ¬ (s.f7.size : Int) ≤ 4096 := by omega
      simp only [cs, cs', if_false, auxV]
      rcases eight h5 with e | e | e | e | e | e | e | e <;> rw [e] <;> rcases hv with rfl | rfl <;> rfl
theorem toList_nil (d : ByteArray) : d.toList = ([] : List UInt8) ↔ d.size = 0 := (toList_eq d).2.1
theorem bt_get (d : ByteArray) (h : 0 < d.size) : bt d 0 = ((d.get! 0).toNat : Int) := by
  unfold bt
  rw [dif_pos (show (0 : Int).toNat < d.size from h)]
  have : (d.get! 0) = d[(0 : Int).toNat]'h := by
    show d.data[0]! = d.data[0]'h
    exact getElem!_pos d.data 0 h
  rw [this]
theorem u8_and1 {a : Int} (h : 0 ≤ a ∧ a ≤ 255) : Go.bits .and .u8 a 1 = a % 2 := by
  rw [u8_and a 1 h.1 (by omega) (by decide) (by decide), show (1 : Int).toNat = 1 from rfl, nat_mask1]
  omega
theorem fault_eq (k : Nat) {s : StT} (h : 0 ≤ s.f5 ∧ s.f5 ≤ 7) : i2c_fault.f (k + 1) s.f0 s.f1 s.f2 s.f3 s.f4 s.f5 s.f6 s.f7 = some (fltV s) := by
  have key : ∀ b : Bool, (b = true ↔ (0 < s.f7.size ∧ (s.f7.get! 0).toNat % 2 = 1)) → i2c_fault.j0 (k + 1) b s.f0 s.f1 s.f2 s.f3 s.f4 s.f5 s.f6 s.f7 = some (fltV s) := by
    intro b hb
    simp only [i2c_fault.j0]
    unfold fltV
    have e1 : ¬ ((s.f7.size : Int) > 1) ↔ ¬ (s.f7.size > 1) := by omega
    by_cases c3 : s.f3 > 1
    · simp only [if_pos c3]
      rcases eight h with e | e | e | e | e | e | e | e <;> rw [e] <;> rfl
    · simp only [if_neg c3]
      by_cases c7 : s.f7.size > 1
      · have c7' : (s.f7.size : Int) > 1 := by omega
        have c0 : 0 < s.f7.size := by omega
        simp only [if_pos c7', c7, c0, true_and] at hb ⊢
        by_cases cb : (s.f7.get! 0).toNat % 2 = 1
        · simp only [hb.mpr cb, cb, if_true, not_true_eq_false, and_false, if_false]
          rcases eight h with e | e | e | e | e | e | e | e <;> rw [e] <;> rfl
        · have : b = false := by cases b with | false => rfl | true => exact absurd (hb.mp rfl) cb
          simp only [this, cb, not_false_eq_true, and_true]
          rcases eight h with e | e | e | e | e | e | e | e <;> rw [e] <;> rfl
      · have c7' : ¬ (s.f7.size : Int) > 1 := by omega
        simp only [if_neg c7', c7, false_and, not_false_eq_true, and_true, ite_self]
        rcases eight h with e | e | e | e | e | e | e | e <;> rw [e] <;> rfl
  unfold i2c_fault.f
  by_cases c : s.f7.size = 0
  · rw [if_pos ((toList_nil _).mpr c)]
    exact key false ⟨fun hh => absurd hh (by decide), fun hh => by omega⟩
  · rw [if_neg (fun hh => c ((toList_nil _).mp hh)), if_pos (by omega)]
    refine key _ ?_
    rw [u8_and1 (bt_range _ _), bt_get _ (by omega)]
    simp only [beq_iff_eq]
    omega
def etup (x : EvT) : Int × Int × Int × Int × Int × ByteArray × Int := (x.f0, x.f1, x.f2, x.f3, x.f4, x.f5, x.f6)
theorem frame_eq (k : Nat) {s : StT} (h : 0 ≤ s.f5 ∧ s.f5 ≤ 7) (en stop : Int) : i2c_frame.f (k + 1) s.f0 s.f1 s.f2 s.f3 s.f4 s.f5 s.f6 s.f7 en stop = some (etup (frmV s en stop)) := by
  unfold i2c_frame.f frmV etup
  rw [fault_eq k h, Option.bind_some]
  by_cases c : s.f7.size = 0
  · have e : s.f7 = ⟨#[]⟩ := by
      apply ByteArray.ext
      exact Array.toList_inj.mp (List.length_eq_zero_iff.mp c)
    rw [if_pos ((toList_nil _).mpr c), if_pos c, e]
    rfl
  · have hb := (s.f7.get! 0).toNat_lt
    rw [if_neg (fun hh => c ((toList_nil _).mp hh)), if_pos (by omega), if_pos (by omega), if_neg c, bt_get _ (by omega), w64 (by omega) (by omega)]
theorem step_ev {c : Int} {s : StT} (hs : Inv s) (x : EvT) : ∀ k, i2c_Step.f (k + 5) c s.f0 s.f1 s.f2 s.f3 s.f4 s.f5 s.f6 s.f7 x.f0 x.f1 x.f2 x.f3 x.f4 x.f5 x.f6 = some (pk (stepV c s x).1 (stepV c s x).2) := by
  intro k
  unfold i2c_Step.f
  rw [(check_eq c).1, Option.bind_some]
  by_cases hc : okC c
  · rw [check_ok hc, if_pos rfl, accepted_eq, Option.bind_some]
    unfold stepV
    by_cases ha : accP s x
    · rw [if_pos ⟨hc, ha⟩]
      have hd : (!decide (accP s x)) = false := by simp [ha]
      rw [hd]
      simp only [i2c_Step.j0, if_neg Bool.false_ne_true]
      obtain ⟨hv, h1, h6, h12, h3, h0⟩ := ha
      unfold goV pk
      by_cases c0 : s.f0 = 0
      · simp only [if_pos c0]
      · simp only [if_neg c0]
        rw [change_eq (k + 2) hs.1 h3, Option.bind_some]
        have hfr : ∀ stop, s.f0 = 2 → i2c_frame.f (k + 3) s.f0 x.f2 s.f2 s.f3 s.f4 s.f5 x.f3 s.f7 x.f1 stop = some (etup (frmV s x.f1 stop)) := fun stop h2 => frame_eq (k + 2) (s := ⟨s.f0, x.f2, s.f2, s.f3, s.f4, s.f5, x.f3, s.f7⟩) (hs.2 h2).2.2.1 x.f1 stop
        by_cases c1 : chgV s.f6 x.f3 = 1
        · simp only [if_pos c1, i2c_Step.j1]
          by_cases c2 : s.f0 = 2
          · simp only [if_pos c2]
            rw [hfr 0 c2, Option.bind_some]
            rfl
          · simp only [if_neg c2]
        · simp only [if_neg c1]
          by_cases c1' : chgV s.f6 x.f3 = 2
          · simp only [if_pos c1', i2c_Step.j1]
            by_cases c2 : s.f0 = 2
            · simp only [if_pos c2]
              rw [hfr 1 c2, Option.bind_some]
              rfl
            · simp only [if_neg c2]
          · simp only [if_neg c1']
            by_cases c3 : chgV s.f6 x.f3 = 3
            · by_cases c2 : s.f0 = 2
              · simp only [if_pos c3, if_pos c2, if_pos (And.intro c3 c2)]
                have eb : Go.bits .and .i64 (x.f3 / 2) 1 = x.f3 / 2 := by
                  rcases four h3 with e | e | e | e <;> rw [e] <;> rfl
                have hb := bit_eq (k + 3) (s := ⟨s.f0, x.f2, s.f2, s.f3, s.f4, s.f5, x.f3, s.f7⟩) (hs.2 c2) (v := x.f3 / 2) (by omega)
                rw [eb]
                rw [hb, Option.bind_some]
                rfl
              · simp only [if_pos c3, if_neg c2, if_neg (fun h : chgV s.f6 x.f3 = 3 ∧ s.f0 = 2 => c2 h.2)]
            · simp only [if_neg c3, if_neg (fun h : chgV s.f6 x.f3 = 3 ∧ s.f0 = 2 => c3 h.1)]
    · rw [if_neg (fun h => ha h.2)]
      have hd : (!decide (accP s x)) = true := by simp [ha]
      rw [hd]
      rfl
  · rw [check_no hc, if_neg (by decide)]
    unfold stepV
    rw [if_neg (fun h => hc h.1)]
    rfl
theorem ev_step {α : Type} {g f : Nat → Option α} {r : α} (n : Nat) (h : ∀ k, n ≤ k → g (k + 1) = f k) (hf : Ev f r) : Ev g r := by
  obtain ⟨K, hK⟩ := hf
  refine ⟨max K n + 1, fun k hk => ?_⟩
  have e : k = (k - 1) + 1 := by omega
  rw [e, h _ (by omega)]
  exact hK _ (by omega)
theorem ev_same {α : Type} {g f : Nat → Option α} {r : α} (n : Nat) (h : ∀ k, n ≤ k → g k = f k) (hf : Ev f r) : Ev g r := by
  obtain ⟨K, hK⟩ := hf
  exact ⟨max K n, fun k hk => by rw [h _ (by omega)]; exact hK _ (by omega)⟩
theorem step_at {c : Int} {s : StT} (hs : Inv s) (x : EvT) {k : Nat} (hk : 5 ≤ k) : i2c_Step.f k c s.f0 s.f1 s.f2 s.f3 s.f4 s.f5 s.f6 s.f7 x.f0 x.f1 x.f2 x.f3 x.f4 x.f5 x.f6 = some (pk (stepV c s x).1 (stepV c s x).2) := by
  have h := step_ev (c := c) hs x (k - 5)
  rwa [show k - 5 + 5 = k by omega] at h
theorem rdE_mid (pre post : List EvT) (x : EvT) : rd_T27 (pre ++ x :: post) (pre.length : Int) = x := by simp [rd_T27, List.getD]
theorem midl_lt {α : Type} (pre post : List α) (x : α) : (pre.length : Int) < ((pre ++ x :: post).length : Int) := by
  simp only [List.length_append, List.length_cons]
  omega
def runV (c : Int) : StT → List EvT → StT × List EvT
  | s, [] => (s, [])
  | s, x :: l => ((runV c (stepV c s x).1 l).1, (stepV c s x).2 ++ (runV c (stepV c s x).1 l).2)
def endV (c : Int) (s : StT) : List EvT := if okC c ∧ s.f0 = 2 then [⟨5, s.f2, s.f1, 0, 0, ⟨#[]⟩, 7⟩] else []
def z0 : StT := ⟨0, 0, 0, 0, 0, 0, 0, ⟨#[]⟩⟩
def decV (c : Int) (l : List EvT) : List EvT := (runV c z0 l).2 ++ endV c (runV c z0 l).1
theorem goV_len (s : StT) (a b v : Int) : (goV s a b v).2.length ≤ 1 := by
  unfold goV
  repeat' split
  all_goals simp
theorem stepV_len (c : Int) (s : StT) (x : EvT) : (stepV c s x).2.length ≤ 1 := by
  unfold stepV
  split
  · exact goV_len ..
  · exact Nat.zero_le _
theorem stepV_inv {c : Int} {s : StT} (h : Inv s) (x : EvT) : Inv (stepV c s x).1 := by
  unfold stepV
  split
  · rename_i ha
    exact goV_inv h ha.2.2.2.2.2.1
  · exact h
theorem endV_len (c : Int) (s : StT) : (endV c s).length ≤ 1 := by
  unfold endV
  split
  · exact Nat.le_refl _
  · exact Nat.zero_le _
theorem inv_z0 : Inv z0 := ⟨⟨Int.le_refl 0, (by decide : (0 : Int) ≤ 3)⟩, fun h => absurd h (by decide : ¬ (0 : Int) = 2)⟩
theorem end_eq (c : Int) (s : StT) : i2c_End.f c s.f0 s.f1 s.f2 s.f3 s.f4 s.f5 s.f6 s.f7 = some (endV c s) := by
  unfold i2c_End.f endV
  rw [(check_eq c).1, Option.bind_some]
  by_cases h : okC c
  · rw [check_ok h, if_pos rfl]
    by_cases h2 : s.f0 = 2
    · rw [if_pos h2, if_pos ⟨h, h2⟩]
    · rw [if_neg h2, if_neg (fun hh => h2 hh.2)]
  · rw [check_no h, if_neg (by decide), if_neg (fun hh => h hh.1)]
theorem dec_l0 {c : Int} : ∀ (post pre out : List EvT) (s : StT), Inv s → out.length + post.length + 1 < 2199023255552 → (pre ++ post).length ≤ 1099511627776 →
    Ev (fun k => i2c_Decode.l0 k out (pre ++ post) ((pre ++ post).length : Int) (pre.length : Int) c s.f0 s.f1 s.f2 s.f3 s.f4 s.f5 s.f6 s.f7) (out ++ ((runV c s post).2 ++ endV c (runV c s post).1))
  | [], pre, out, s, hs, ho, hl => by
    have hz := endV_len c s
    refine Ev.step (f := fun _ => some (out ++ endV c s)) (fun k => ?_) (Ev.now _)
    simp only [i2c_Decode.l0]
    rw [if_neg (by simp), end_eq, Option.bind_some, if_pos (by simp only [List.length_nil] at ho; omega)]
  | x :: post, pre, out, s, hs, ho, hl => by
    have hlt := midl_lt pre post x
    have hn : pre.length ≤ 9223372036854775806 := by
      simp only [List.length_append, List.length_cons] at hl
      omega
    have h1 := stepV_len c s x
    simp only [List.length_cons] at ho
    have ih := dec_l0 (c := c) post (pre ++ [x]) (out ++ (stepV c s x).2) (stepV c s x).1 (stepV_inv hs x) (by rw [List.length_append]; omega) (by simpa using hl)
    rw [← mid_snoc] at ih
    have er : out ++ (stepV c s x).2 ++ ((runV c (stepV c s x).1 post).2 ++ endV c (runV c (stepV c s x).1 post).1) = out ++ ((runV c s (x :: post)).2 ++ endV c (runV c s (x :: post)).1) := by
      simp only [runV, List.append_assoc]
    rw [er] at ih
    refine ev_step 5 (fun k hk => ?_) ih
    simp only [i2c_Decode.l0]
    rw [if_pos hlt, if_pos (by omega), if_pos hlt, rdE_mid, step_at hs x hk, Option.bind_some]
    refine (if_pos (show out.length + (stepV c s x).2.length < 2199023255552 by omega)).trans ?_
    rw [succ_mid _ _ hn]
    rfl
theorem dec_ev (c : Int) {l : List EvT} (hl : l.length ≤ 1099511627776) : Ev (fun k => i2c_Decode.f k c l) (decV c l) := by
  have h := dec_l0 (c := c) l [] [] z0 inv_z0 (by simp only [List.length_nil]; omega) (by simpa using hl)
  exact Ev.congr (fun k => rfl) h
theorem awake23_ev : Ev (fun k => signalbenchlaw23_awake.f k) true := Ev.of (k := 100) (fun k => signalbenchlaw23_awake.mono k) (by decide +kernel)
theorem awake23_then : Ev (fun k => (signalbenchlaw23_awake.f k).bind fun t => some t) true := Ev.bind awake23_ev (Ev.now true)
theorem awk {g : Nat → Option Bool} (n : Nat) (h : ∀ k, n ≤ k → g k = (signalbenchlaw23_awake.f k).bind fun t => some t) : Ev g true := ev_same n h awake23_then
theorem runV_no {c : Int} (hc : ¬ okC c) : ∀ (l : List EvT) (s : StT), runV c s l = (s, [])
  | [], s => rfl
  | x :: l, s => by
    have e : stepV c s x = (s, []) := by
      unfold stepV
      rw [if_neg (fun h => hc h.1)]
    simp only [runV, e, runV_no hc l s, List.append_nil]
theorem decV_no {c : Int} (hc : ¬ okC c) (l : List EvT) : decV c l = [] := by
  unfold decV endV
  rw [runV_no hc, if_neg (fun h => hc h.1)]
  rfl
def chainV : Option Int → List EvT → Prop
  | _, [] => True
  | p, x :: l => (validP x ∧ x.f0 = 1 ∧ x.f6 = 0 ∧ x.f1 < x.f2 ∧ (0 ≤ x.f3 ∧ x.f3 ≤ 3)) ∧ (∀ q, p = some q → x.f1 = q) ∧ chainV (some x.f2) l
def lvlP (x : EvT) : Prop := validP x ∧ x.f0 = 1 ∧ x.f6 = 0 ∧ x.f1 < x.f2 ∧ (0 ≤ x.f3 ∧ x.f3 ≤ 3)
theorem chain_no {L : List EvT} {i : Int} {x : EvT} (h0 : 0 ≤ i) (hi : i < (L.length : Int)) (hx : rd_T27 L i = x) (h : ¬ lvlP x) (k : Nat) : signalbenchlaw23_chain.l0 (k + 2) L i = some false := by
  simp only [signalbenchlaw23_chain.l0, hx]
  rw [if_pos hi, if_pos h0, refValid_eq, Option.bind_some]
  by_cases v : validP x
  · rw [if_pos (decide_eq_true v)]
    by_cases h1 : x.f0 = 1
    · rw [if_pos h1]
      by_cases h2 : x.f6 = 0
      · rw [if_pos h2]
        by_cases h3 : x.f1 ≥ x.f2
        · rw [if_pos h3]
          rfl
        · rw [if_neg h3]
          by_cases h4 : x.f3 < 0
          · rw [if_pos h4]
            rfl
          · rw [if_neg h4]
            by_cases h5 : x.f3 > 3
            · rw [decide_eq_true h5]
              rfl
            · exact absurd ⟨v, h1, h2, by omega, by omega⟩ h
      · rw [if_neg h2]
        rfl
    · rw [if_neg h1]
      rfl
  · rw [if_neg (by simp [v])]
    rfl
theorem chain_yes {L : List EvT} {i : Int} {x : EvT} (h0 : 0 ≤ i) (hi : i < (L.length : Int)) (hx : rd_T27 L i = x) (h : lvlP x) (k : Nat) : signalbenchlaw23_chain.l0 (k + 1) L i = signalbenchlaw23_chain.j1 k L i false x.f0 x.f1 x.f2 x.f3 x.f4 x.f5 x.f6 := by
  obtain ⟨v, h1, h2, h3, h4, h5⟩ := h
  simp only [signalbenchlaw23_chain.l0, hx]
  rw [if_pos hi, if_pos h0, refValid_eq, Option.bind_some, if_pos (decide_eq_true v), if_pos h1, if_pos h2, if_neg (by omega), if_neg (by omega), decide_eq_false (by omega)]
theorem chain_l0 : ∀ (post pre : List EvT), (pre ++ post).length ≤ 140737488355328 →
    ∃ b : Bool, Ev (fun k => signalbenchlaw23_chain.l0 k (pre ++ post) (pre.length : Int)) b ∧ (b = true → chainV (pre.getLast?.map (·.f2)) post)
  | [], pre, hl => ⟨true, Ev.step (f := fun _ => some true) (fun k => by
      simp only [signalbenchlaw23_chain.l0]
      rw [if_neg (by simp)]) (Ev.now _), fun _ => trivial⟩
  | x :: post, pre, hl => by
    have hlt := midl_lt pre post x
    have hn : pre.length ≤ 9223372036854775806 := by
      simp only [List.length_append, List.length_cons] at hl
      omega
    have hx := rdE_mid pre post x
    obtain ⟨b, ih, hb⟩ := chain_l0 post (pre ++ [x]) (by simpa using hl)
    rw [← mid_snoc] at ih
    by_cases hv : lvlP x
    · rcases snoc_cases pre with rfl | ⟨z, y, rfl⟩
      · refine ⟨b, ?_, fun h => ⟨hv, (fun q e => by cases e), ?_⟩⟩
        · have hj : Ev (fun k => signalbenchlaw23_chain.j1 k ([] ++ x :: post) (([] : List EvT).length : Int) false x.f0 x.f1 x.f2 x.f3 x.f4 x.f5 x.f6) b := by
            refine Ev.step (fun k => ?_) ih
            simp only [signalbenchlaw23_chain.j1, if_neg Bool.false_ne_true]
            rw [if_neg (by simp), succ_mid _ _ hn]
          exact Ev.step (fun k => chain_yes (by omega) hlt hx hv k) hj
        · have := hb h
          simpa using this
      · have hlt2 : ((z.length : Nat) : Int) < ((z ++ [y] ++ x :: post).length : Int) := by
          simp only [List.length_append, List.length_cons, List.length_nil]
          omega
        have hw : wrap64 (((z ++ [y]).length : Int) - 1) = (z.length : Int) := by
          simp only [List.length_append, List.length_cons, List.length_nil] at hn ⊢
          rw [w64 (by omega) (by omega)]
          omega
        have hy : rd_T27 (z ++ [y] ++ x :: post) (z.length : Int) = y := by
          rw [show z ++ [y] ++ x :: post = z ++ y :: (x :: post) by simp]
          exact rdE_mid z _ y
        have hgt : ((z ++ [y]).length : Int) > 0 := by
          simp only [List.length_append, List.length_cons, List.length_nil]
          omega
        by_cases e : x.f1 = y.f2
        · refine ⟨b, ?_, fun h => ⟨hv, (fun q eq => by simp at eq; omega), ?_⟩⟩
          · have hj : Ev (fun k => signalbenchlaw23_chain.j1 k (z ++ [y] ++ x :: post) ((z ++ [y]).length : Int) false x.f0 x.f1 x.f2 x.f3 x.f4 x.f5 x.f6) b := by
              refine Ev.step (fun k => ?_) ih
              simp only [signalbenchlaw23_chain.j1, if_neg Bool.false_ne_true]
              rw [if_pos hgt, hw, if_pos (by omega), if_pos hlt2, hy, if_pos e, succ_mid _ _ hn]
            exact Ev.step (fun k => chain_yes (by omega) hlt hx hv k) hj
          · have := hb h
            simpa using this
        · refine ⟨false, ?_, fun h => absurd h (by decide)⟩
          have hj : Ev (fun k => signalbenchlaw23_chain.j1 k (z ++ [y] ++ x :: post) ((z ++ [y]).length : Int) false x.f0 x.f1 x.f2 x.f3 x.f4 x.f5 x.f6) false := by
            refine Ev.step (f := fun _ => some false) (fun k => ?_) (Ev.now _)
            simp only [signalbenchlaw23_chain.j1, if_neg Bool.false_ne_true]
            rw [if_pos hgt, hw, if_pos (by omega), if_pos hlt2, hy, if_neg e]
          exact Ev.step (fun k => chain_yes (by omega) hlt hx hv k) hj
    · exact ⟨false, ev_from 2 (fun k => chain_no (by omega) hlt hx hv k), fun h => absurd h (by decide)⟩
theorem chain_ev {l : List EvT} (hl : l.length ≤ 140737488355328) : ∃ b : Bool, Ev (fun k => signalbenchlaw23_chain.f k l) b ∧ (b = true → chainV none l) := by
  obtain ⟨b, h1, h2⟩ := chain_l0 l [] (by simpa using hl)
  exact ⟨b, Ev.congr (fun k => rfl) h1, h2⟩
theorem chain_mem : ∀ {l : List EvT} {p : Option Int}, chainV p l → ∀ x ∈ l, lvlP x
  | y :: l, p, h, x, hx => by
    rcases List.mem_cons.mp hx with rfl | hx
    · exact h.1
    · exact chain_mem h.2.2 x hx
def Linked (s : StT) (p : Option Int) : Prop := s.f0 = 0 ∨ p = some s.f1
theorem chain_acc {s : StT} {p : Option Int} {x : EvT} {l : List EvT} (h : chainV p (x :: l)) (hs : Linked s p) : accP s x := by
  obtain ⟨⟨v, h1, h2, h3, h4⟩, h5, _⟩ := h
  exact ⟨v, h1, h2, h3, h4, hs.imp id (fun e => h5 _ e)⟩
theorem chain_step {c : Int} (hc : okC c) {s : StT} {p : Option Int} {x : EvT} {l : List EvT} (h : chainV p (x :: l)) (hs : Linked s p) : stepV c s x = goV s x.f1 x.f2 x.f3 ∧ Linked (goV s x.f1 x.f2 x.f3).1 (some x.f2) ∧ chainV (some x.f2) l := by
  refine ⟨?_, .inr (by rw [(goV_end s x.f1 x.f2 x.f3).2.2]), h.2.2⟩
  unfold stepV
  rw [if_pos ⟨hc, chain_acc h hs⟩]
def quietV : Int → List EvT → Prop
  | _, [] => True
  | p, x :: l => ¬ (x.f3 % 2 = 1 ∧ p % 2 = 1 ∧ x.f3 ≠ p) ∧ quietV x.f3 l
theorem quiet_run {c : Int} (hc : okC c) : ∀ (l : List EvT) (s : StT) (p : Option Int), chainV p l → Linked s p → s.f0 = 1 → (0 ≤ s.f6 ∧ s.f6 ≤ 3) → quietV s.f6 l → (runV c s l).2 = [] ∧ (runV c s l).1.f0 = 1
  | [], s, p, h, hs, h1, h6, hq => ⟨rfl, h1⟩
  | x :: l, s, p, h, hs, h1, h6, hq => by
    obtain ⟨e, hl, hch⟩ := chain_step hc h hs
    have hx := h.1.2.2.2.2
    have hg : goV s x.f1 x.f2 x.f3 = (⟨s.f0, x.f2, s.f2, s.f3, s.f4, s.f5, x.f3, s.f7⟩, []) := by
      unfold goV
      have hn1 : ¬ chgV s.f6 x.f3 = 1 := fun e => by
        refine hq.1 ?_
        unfold chgV at e
        split at e
        · rename_i hh; exact ⟨hh.2.1, hh.1, by omega⟩
        · split at e
          · exact absurd e (by decide)
          · split at e <;> exact absurd e (by decide)
      have hn2 : ¬ chgV s.f6 x.f3 = 2 := fun e => by
        refine hq.1 ?_
        unfold chgV at e
        split at e
        · exact absurd e (by decide)
        · split at e
          · rename_i hh; exact ⟨hh.2.1, hh.1, by omega⟩
          · split at e <;> exact absurd e (by decide)
      rw [if_neg (by omega), if_neg hn1, if_neg hn2, if_neg (fun hh => by omega)]
    rw [hg] at hl
    have ih := quiet_run hc l ⟨s.f0, x.f2, s.f2, s.f3, s.f4, s.f5, x.f3, s.f7⟩ (some x.f2) hch hl h1 hx hq.2
    simp only [runV]
    rw [e, hg]
    exact ih
theorem quiet_dec {c : Int} {x : EvT} {l : List EvT} (h : chainV none (x :: l)) (hq : quietV x.f3 l) : decV c (x :: l) = [] := by
  by_cases hc : okC c
  · obtain ⟨e, hl, hch⟩ := chain_step hc h (s := z0) (.inl rfl)
    have hg : goV z0 x.f1 x.f2 x.f3 = (⟨1, x.f2, 0, 0, 0, 0, x.f3, ⟨#[]⟩⟩, []) := rfl
    rw [hg] at hl e
    obtain ⟨h1, h2⟩ := quiet_run hc l ⟨1, x.f2, 0, 0, 0, 0, x.f3, ⟨#[]⟩⟩ (some x.f2) hch hl rfl h.1.2.2.2.2 hq
    have hr : runV c z0 (x :: l) = ((runV c ⟨1, x.f2, 0, 0, 0, 0, x.f3, ⟨#[]⟩⟩ l).1, [] ++ (runV c ⟨1, x.f2, 0, 0, 0, 0, x.f3, ⟨#[]⟩⟩ l).2) := by
      simp only [runV]
      rw [e]
    unfold decV
    rw [hr]
    dsimp only
    rw [h1]
    unfold endV
    rw [if_neg (fun hh => by have := hh.2; omega)]
    rfl
  · exact decV_no hc _
theorem tm2 {a : Int} (h : 0 ≤ a) : Int.tmod a 2 = a % 2 := Int.tmod_eq_emod_of_nonneg h
theorem silent_l0 {c : Int} : ∀ (post pre : List EvT) (y : EvT), (∀ x ∈ pre ++ y :: post, 0 ≤ x.f3 ∧ x.f3 ≤ 3) → (quietV y.f3 post → decV c (pre ++ y :: post) = []) → (pre ++ y :: post).length ≤ 4000 →
    Ev (fun k => signalbenchlaw23_I2cSilent.l0 k (pre ++ y :: post) ((pre.length : Int) + 1) c) true
  | [], pre, y, hm, hd, hl => by
    have h := dec_ev c (l := pre ++ [y]) (by omega)
    rw [hd trivial] at h
    have hfin := Ev.bind (f := fun k (t663 : List EvT) => if (t663.length : Int) = 0 then ((signalbenchlaw23_awake.f k).bind fun t666 => some t666) else none) h (awk 0 (fun k _ => by rw [if_pos (show (([] : List EvT).length : Int) = 0 from rfl)]))
    refine Ev.step (fun k => ?_) hfin
    simp only [signalbenchlaw23_I2cSilent.l0]
    rw [if_neg (by simp)]
  | x :: post, pre, y, hm, hd, hl => by
    have hn : pre.length ≤ 9223372036854775800 := by
      simp only [List.length_append, List.length_cons] at hl
      omega
    have hx3 := hm x (by simp)
    have hy3 := hm y (by simp)
    have hlt : (pre.length : Int) + 1 < ((pre ++ y :: x :: post).length : Int) := by
      simp only [List.length_append, List.length_cons]
      omega
    have ex : rd_T27 (pre ++ y :: x :: post) ((pre.length : Int) + 1) = x := by
      rw [show pre ++ y :: x :: post = (pre ++ [y]) ++ x :: post by simp, show (pre.length : Int) + 1 = ((pre ++ [y]).length : Int) by simp]
      exact rdE_mid _ _ x
    have ey : rd_T27 (pre ++ y :: x :: post) (pre.length : Int) = y := rdE_mid _ _ y
    have hw1 : wrap64 ((pre.length : Int) + 1 - 1) = (pre.length : Int) := by rw [w64 (by omega) (by omega)]; omega
    have hw2 : wrap64 ((pre.length : Int) + 1 + 1) = ((pre ++ [y]).length : Int) + 1 := by
      rw [w64 (by omega) (by omega)]
      simp
    have ih := silent_l0 (c := c) post (pre ++ [y]) x (by simpa using hm)
    rw [← mid_snoc] at ih
    by_cases q : ¬ (x.f3 % 2 = 1 ∧ y.f3 % 2 = 1 ∧ x.f3 ≠ y.f3)
    · have ih' := ih (fun h => hd ⟨q, h⟩) (by simpa using hl)
      refine Ev.step (fun k => ?_) ih'
      simp only [signalbenchlaw23_I2cSilent.l0]
      rw [if_pos hlt, if_pos (by omega), ex, hw1, if_pos (show 0 ≤ (pre.length : Int) by omega), if_pos (show (pre.length : Int) < _ by omega), ey, hw2, tm2 hx3.1, tm2 hy3.1]
      by_cases a1 : x.f3 % 2 = 1
      · rw [if_pos a1]
        by_cases a2 : y.f3 % 2 = 1
        · rw [if_pos a2, if_pos (by omega)]
        · rw [if_neg a2]
      · rw [if_neg a1]
    · refine Ev.step (fun k => ?_) awake23_then
      simp only [signalbenchlaw23_I2cSilent.l0]
      rw [if_pos hlt, if_pos (by omega), ex, hw1, if_pos (show 0 ≤ (pre.length : Int) by omega), if_pos (show (pre.length : Int) < _ by omega), ey, tm2 hx3.1, tm2 hy3.1, if_pos (by omega), if_pos (by omega), if_neg (by omega)]
theorem I2cSilent_pure (c : Int) {l : List EvT} (hl : l.length ≤ 140737488355328) : ∃ k, signalbenchlaw23_I2cSilent.f k c l = some true := by
  refine Ev.rounds ?_
  unfold signalbenchlaw23_I2cSilent.f
  have hyes : Ev (fun k => signalbenchlaw23_I2cSilent.j0 k l true c) true := Ev.step (fun k => by simp only [signalbenchlaw23_I2cSilent.j0, if_true]) awake23_then
  by_cases h4 : (l.length : Int) > 4000
  · exact Ev.congr (fun k => if_pos h4) hyes
  · refine Ev.congr (fun k => if_neg h4) ?_
    obtain ⟨b, hb, hch⟩ := chain_ev hl
    refine Ev.bind hb ?_
    cases b with
    | false => exact hyes
    | true =>
      have hc := hch rfl
      have hrun : Ev (fun k => signalbenchlaw23_I2cSilent.l0 k l 1 c) true := by
        cases l with
        | nil =>
          have h := dec_ev c (l := []) (by simp)
          have e : decV c [] = [] := by
            unfold decV endV
            rw [if_neg (fun hh => absurd hh.2 (by show ¬ (0 : Int) = 2; decide))]
            rfl
          rw [e] at h
          have hfin := Ev.bind (f := fun k (t663 : List EvT) => if (t663.length : Int) = 0 then ((signalbenchlaw23_awake.f k).bind fun t666 => some t666) else none) h (awk 0 (fun k _ => by rw [if_pos (show (([] : List EvT).length : Int) = 0 from rfl)]))
          exact Ev.step (fun k => by simp only [signalbenchlaw23_I2cSilent.l0]; rw [if_neg (by simp)]) hfin
        | cons y l =>
          have h := silent_l0 (c := c) l [] y (fun x hx => (chain_mem hc x hx).2.2.2.2) (fun q => quiet_dec hc q) (by simp only [List.nil_append]; omega)
          exact h
      exact Ev.step (fun k => by
        simp only [signalbenchlaw23_I2cSilent.j0, Bool.not_true, if_neg Bool.false_ne_true]) hrun
end Go.Proofs.Ytdbpablakhfdcaa
