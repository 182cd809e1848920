/- The law I2cPieces as a plain statement on numbers and lists: with enough rounds it answers true; conditions: each number is one of its kind, no list or string is longer than its memory allows. -/
import Derived.Laws.BitsAllLaws
import Derived.WalkKit
import Derived.Test.YtdbpablakhfdcaaWMore
import Derived.Test.YtdbpablakhfdcaaQx0
import Derived.Test.YtdbpablakhfdcaaQx3
import Derived.Test.YtdbpablakhfdcaaQx4
import Derived.Test.YtdbpablakhfdcaaQx5
import Derived.Test.YtdbpablakhfdcaaQx6
import Derived.Test.YtdbpablakhfdcaaQx7
import Derived.Test.YtdbpablakhfdcaaQx9
import Derived.Test.YtdbpablakhfdcaaQx11
import Derived.Test.YtdbpablakhfdcaaQx12
import Derived.Test.YtdbpablakhfdcaaQx13
namespace Go.Proofs.Ytdbpablakhfdcaa
open Go Go.RowKit Go.Proofs.YtdbpablakhfdcaaW.PrintWords Go.Proofs.YtdbpablakhfdcaaW.PrintLast Go.Proofs.Ytdbpablakhfdcaa.Q
set_option linter.unusedVariables false
theorem w64 {x : Int} (h0 : -9223372036854775808 ≤ x) (h1 : x ≤ 9223372036854775807) : wrap64 x = x := by
 unfold wrap64
 omega
theorem succ_mid {α : Type} (pre : List α) (x : α) (h : pre.length ≤ 9223372036854775806) : wrap64 ((pre.length : Int) + 1) = ((pre ++ [x]).length : Int) := by
 rw [w64 (by omega) (by omega)]
 simp
theorem mid_snoc {α : Type} (pre post : List α) (x : α) : pre ++ x :: post = (pre ++ [x]) ++ post := by simp
abbrev EvT := S27
structure StT where
 f0 : Int
 f1 : Int
 f2 : Int
 f3 : Int
 f4 : Int
 f5 : Int
 f6 : Int
 f7 : ByteArray
def chgV (was is : Int) : Int :=
 if was % 2 = 1 ∧ is % 2 = 1 ∧ was / 2 = 1 ∧ is / 2 = 0 then 1
 else if was % 2 = 1 ∧ is % 2 = 1 ∧ was / 2 = 0 ∧ is / 2 = 1 then 2
 else if was % 2 = 0 ∧ is % 2 = 1 then 3 else 0
theorem chgV_same (v : Int) : chgV v v = 0 := by
 unfold chgV
 rw [if_neg (by omega), if_neg (by omega), if_neg (by omega)]
def auxV (a v : Int) (d : Nat) : Int := (if a / 2 % 2 = 1 then 1 else a % 2) + 2 * (if v = 0 then 0 else 1) + 4 * (if d ≤ 4096 then a / 4 % 2 else 1)
def bitV (s : StT) (v : Int) : StT :=
 if s.f3 < 8 then ⟨s.f0, s.f1, s.f2, s.f3 + 1, 2 * s.f4 + v, s.f5, s.f6, s.f7⟩
 else ⟨s.f0, s.f1, s.f2, 0, 0, auxV s.f5 v s.f7.size, s.f6, if s.f7.size ≤ 4096 then s.f7 ++ ⟨#[UInt8.ofNat s.f4.toNat]⟩ else s.f7⟩
def fltV (s : StT) : Int := if s.f5 / 4 % 2 = 1 then 8 else if s.f3 > 1 then 7 else if s.f5 % 2 = 1 then 10 else if s.f5 / 2 % 2 = 1 ∧ ¬ (s.f7.size > 1 ∧ (s.f7.get! 0).toNat % 2 = 1) then 10 else 0
def frmV (s : StT) (en stop : Int) : EvT := ⟨5, s.f2, en, if s.f7.size = 0 then -1 else ((s.f7.get! 0).toNat : Int), stop, s.f7.extract 1 s.f7.size, fltV s⟩
def goV (s : StT) (a b v : Int) : StT × List EvT :=
 if s.f0 = 0 then (⟨1, b, 0, 0, 0, 0, v, (⟨#[]⟩ : ByteArray)⟩, [])
 else if chgV s.f6 v = 1 then (⟨2, b, a, 0, 0, 0, v, (⟨#[]⟩ : ByteArray)⟩, if s.f0 = 2 then [frmV s a 0] else [])
 else if chgV s.f6 v = 2 then (⟨1, b, 0, 0, 0, 0, v, (⟨#[]⟩ : ByteArray)⟩, if s.f0 = 2 then [frmV s a 1] else [])
 else if chgV s.f6 v = 3 ∧ s.f0 = 2 then (bitV ⟨s.f0, b, s.f2, s.f3, s.f4, s.f5, v, s.f7⟩ (v / 2), [])
 else (⟨s.f0, b, s.f2, s.f3, s.f4, s.f5, v, s.f7⟩, [])
theorem bitV_prev (s : StT) (v : Int) : (bitV s v).f6 = s.f6 ∧ (bitV s v).f0 = s.f0 ∧ (bitV s v).f1 = s.f1 := by
 unfold bitV
 split <;> exact ⟨rfl, rfl, rfl⟩
theorem goV_end (s : StT) (a b v : Int) : (goV s a b v).1.f6 = v ∧ (goV s a b v).1.f0 ≠ 0 ∧ (goV s a b v).1.f1 = b := by
 unfold goV
 split
 ·exact ⟨rfl, (by decide : (1 : Int) ≠ 0), rfl⟩
 ·split
  ·exact ⟨rfl, (by decide : (2 : Int) ≠ 0), rfl⟩
  ·split
   ·exact ⟨rfl, (by decide : (1 : Int) ≠ 0), rfl⟩
   ·split
    ·obtain ⟨h1, h2, h3⟩ := bitV_prev ⟨s.f0, b, s.f2, s.f3, s.f4, s.f5, v, s.f7⟩ (v / 2)
     exact ⟨h1, by rw [h2]; assumption, h3⟩
    ·exact ⟨rfl, by assumption, rfl⟩
theorem bitV_at (s : StT) (v b p : Int) : (⟨(bitV s v).f0, b, (bitV s v).f2, (bitV s v).f3, (bitV s v).f4, (bitV s v).f5, p, (bitV s v).f7⟩ : StT) = bitV ⟨s.f0, b, s.f2, s.f3, s.f4, s.f5, p, s.f7⟩ v := by
 unfold bitV
 dsimp only
 split <;> rfl
/-- An event of the same levels as the one before it changes the time alone. -/
theorem goV_same (s : StT) (a b v : Int) (h : s.f6 = v) (h0 : s.f0 ≠ 0) : goV s a b v = (⟨s.f0, b, s.f2, s.f3, s.f4, s.f5, v, s.f7⟩, []) := by
 unfold goV
 rw [if_neg h0, h, chgV_same, if_neg (by decide), if_neg (by decide), if_neg (by simp)]
theorem goV_split (s : StT) (a m b v : Int) : goV (goV s a m v).1 m b v = ((goV s a b v).1, []) ∧ (goV s a m v).2 = (goV s a b v).2 := by
 obtain ⟨h1, h2, h3⟩ := goV_end s a m v
 rw [goV_same _ m b v h1 h2]
 unfold goV
 by_cases c0 : s.f0 = 0
 ·simp only [if_pos c0]
  exact ⟨trivial, trivial⟩
 ·simp only [if_neg c0]
  by_cases c1 : chgV s.f6 v = 1
  ·simp only [if_pos c1]
   exact ⟨trivial, trivial⟩
  ·simp only [if_neg c1]
   by_cases c2 : chgV s.f6 v = 2
   ·simp only [if_pos c2]
    exact ⟨trivial, trivial⟩
   ·simp only [if_neg c2]
    by_cases c3 : chgV s.f6 v = 3 ∧ s.f0 = 2
    ·simp only [if_pos c3]
     exact ⟨by rw [bitV_at], trivial⟩
    ·simp only [if_neg c3]
     exact ⟨trivial, trivial⟩
theorem snoc_cases {α : Type} (o : List α) : o = [] ∨ ∃ q y, o = q ++ [y] := by
 rcases List.eq_nil_or_concat o with h | ⟨q, y, h⟩
 ·exact .inl h
 ·exact .inr ⟨q, y, by simpa using h⟩
theorem toList_eq (d : ByteArray) : d.toList.toArray = d.data ∧ (d.toList = [] ↔ d.size = 0) ∧ d.toList.length = d.size := by
 have e : d.toList = d.data.toList := by simp [ByteArray.toList_eq]
 refine ⟨by rw [e], ?_, by rw [e]; rfl⟩
 rw [e]
 exact ⟨fun h => by show d.data.toList.length = 0; rw [h]; rfl, fun h => List.length_eq_zero_iff.mp h⟩
theorem ev_from {α : Type} {g : Nat → Option α} {r : α} (n : Nat) (h : ∀ k, g (k + n) = some r) : Ev g r :=
 ⟨n, fun k hk => by have := h (k - n); rwa [show k - n + n = k by omega] at this⟩
abbrev TupT := Int × Int × Int × Int × Int × Int × Int × ByteArray
def pk (s : StT) (o : List EvT) : Int × Int × Int × Int × Int × Int × Int × ByteArray × List EvT := (s.f0, s.f1, s.f2, s.f3, s.f4, s.f5, s.f6, s.f7, o)
abbrev okC (c : Int) : Prop := 1 ≤ c ∧ c ≤ 1048576
abbrev validP (x : EvT) : Prop := (1 ≤ x.f0 ∧ x.f0 ≤ 8) ∧ (0 ≤ x.f1 ∧ x.f1 ≤ x.f2 ∧ x.f2 ≤ 1099511627776) ∧ (-9007199254740992 ≤ x.f3 ∧ x.f3 ≤ 9007199254740992) ∧ (-9007199254740992 ≤ x.f4 ∧ x.f4 ≤ 9007199254740992) ∧ x.f5.size ≤ 4096 ∧ (0 ≤ x.f6 ∧ x.f6 ≤ 12)
abbrev accP (s : StT) (x : EvT) : Prop := validP x ∧ x.f0 = 1 ∧ x.f6 = 0 ∧ x.f1 < x.f2 ∧ (0 ≤ x.f3 ∧ x.f3 ≤ 3) ∧ (s.f0 = 0 ∨ x.f1 = s.f1)
def stepV (c : Int) (s : StT) (x : EvT) : StT × List EvT := if okC c ∧ accP s x then goV s x.f1 x.f2 x.f3 else (s, [])
def check_i2c (c : Int) : Int := if okC c then 0 else 2
theorem check1 (c : Int) : i2c_Check.f c = some (check_i2c c) := by
 unfold i2c_Check.f check_i2c okC
 by_cases h0 : c < 1
 ·rw [if_pos h0, if_neg (by omega)]
 ·rw [if_neg h0]
  by_cases h1 : c > 1048576
  ·rw [if_pos h1, if_neg (by omega)]
  ·rw [if_neg h1, if_pos (by omega)]
theorem check_ok {c : Int} (h : okC c) : check_i2c c = 0 := if_pos h
theorem check_no {c : Int} (h : ¬ okC c) : check_i2c c = 2 := if_neg h
theorem evValid_eq (k : Nat) (x : EvT) : event_Valid.f (k + 2) x.f0 x.f1 x.f2 x.f3 x.f4 x.f5 x.f6 = some (decide (validP x)) := by
 unfold event_Valid.f
 by_cases c1 : x.f0 < 1
 ·rw [decide_eq_false (p := validP x) (fun h => by obtain ⟨⟨a1, a2⟩, ⟨b1, b2, b3⟩, ⟨d1, d2⟩, ⟨e1, e2⟩, g, ⟨i1, i2⟩⟩ := h; omega)]
  rw [if_pos c1]
  rfl
 ·rw [if_neg c1]
  by_cases c2 : x.f0 > 8
  ·rw [decide_eq_false (p := validP x) (fun h => by obtain ⟨⟨a1, a2⟩, ⟨b1, b2, b3⟩, ⟨d1, d2⟩, ⟨e1, e2⟩, g, ⟨i1, i2⟩⟩ := h; omega)]
   rw [decide_eq_true c2]
   rfl
  ·rw [decide_eq_false c2]
   simp only [event_Valid.j0, if_neg Bool.false_ne_true]
   by_cases c3 : x.f1 < 0
   ·rw [decide_eq_false (p := validP x) (fun h => by obtain ⟨⟨a1, a2⟩, ⟨b1, b2, b3⟩, ⟨d1, d2⟩, ⟨e1, e2⟩, g, ⟨i1, i2⟩⟩ := h; omega)]
    rw [if_pos c3]
    rfl
   ·rw [if_neg c3]
    by_cases c4 : x.f1 > x.f2
    ·rw [decide_eq_false (p := validP x) (fun h => by obtain ⟨⟨a1, a2⟩, ⟨b1, b2, b3⟩, ⟨d1, d2⟩, ⟨e1, e2⟩, g, ⟨i1, i2⟩⟩ := h; omega)]
     rw [if_pos c4]
     rfl
    ·rw [if_neg c4]
     by_cases c5 : x.f2 > 1099511627776
     ·rw [decide_eq_false (p := validP x) (fun h => by obtain ⟨⟨a1, a2⟩, ⟨b1, b2, b3⟩, ⟨d1, d2⟩, ⟨e1, e2⟩, g, ⟨i1, i2⟩⟩ := h; omega)]
      rw [decide_eq_true c5]
      rfl
     ·rw [decide_eq_false c5]
      simp only [event_Valid.j1, if_neg Bool.false_ne_true]
      by_cases c6 : x.f3 < -9007199254740992
      ·rw [decide_eq_false (p := validP x) (fun h => by obtain ⟨⟨a1, a2⟩, ⟨b1, b2, b3⟩, ⟨d1, d2⟩, ⟨e1, e2⟩, g, ⟨i1, i2⟩⟩ := h; omega)]
       rw [if_pos c6]
      ·rw [if_neg c6]
       by_cases c7 : x.f3 > 9007199254740992
       ·rw [decide_eq_false (p := validP x) (fun h => by obtain ⟨⟨a1, a2⟩, ⟨b1, b2, b3⟩, ⟨d1, d2⟩, ⟨e1, e2⟩, g, ⟨i1, i2⟩⟩ := h; omega)]
        rw [if_pos c7]
       ·rw [if_neg c7]
        by_cases c8 : x.f4 < -9007199254740992
        ·rw [decide_eq_false (p := validP x) (fun h => by obtain ⟨⟨a1, a2⟩, ⟨b1, b2, b3⟩, ⟨d1, d2⟩, ⟨e1, e2⟩, g, ⟨i1, i2⟩⟩ := h; omega)]
         rw [if_pos c8]
        ·rw [if_neg c8]
         by_cases c9 : x.f4 > 9007199254740992
         ·rw [decide_eq_false (p := validP x) (fun h => by obtain ⟨⟨a1, a2⟩, ⟨b1, b2, b3⟩, ⟨d1, d2⟩, ⟨e1, e2⟩, g, ⟨i1, i2⟩⟩ := h; omega)]
          rw [if_pos c9]
         ·rw [if_neg c9]
          by_cases c10 : (x.f5.size : Int) > 4096
          ·rw [decide_eq_false (p := validP x) (fun h => by obtain ⟨⟨a1, a2⟩, ⟨b1, b2, b3⟩, ⟨d1, d2⟩, ⟨e1, e2⟩, g, ⟨i1, i2⟩⟩ := h; omega)]
           rw [if_neg (by omega)]
          ·rw [if_pos (by omega)]
           by_cases c11 : x.f6 < 0
           ·rw [decide_eq_false (p := validP x) (fun h => by obtain ⟨⟨a1, a2⟩, ⟨b1, b2, b3⟩, ⟨d1, d2⟩, ⟨e1, e2⟩, g, ⟨i1, i2⟩⟩ := h; omega)]
            rw [if_neg (by omega)]
           ·rw [if_pos (by omega)]
            by_cases c12 : x.f6 > 12
            ·rw [decide_eq_false (p := validP x) (fun h => by obtain ⟨⟨a1, a2⟩, ⟨b1, b2, b3⟩, ⟨d1, d2⟩, ⟨e1, e2⟩, g, ⟨i1, i2⟩⟩ := h; omega)]
             rw [decide_eq_false (by omega)]
            ·rw [decide_eq_true (by omega), decide_eq_true (show validP x from ⟨by omega, by omega, by omega, by omega, by omega, by omega⟩)]
theorem refValid_eq (x : EvT) : r07_Valid.f x.f0 x.f1 x.f2 x.f3 x.f4 x.f5 x.f6 = some (decide (validP x)) := by
 unfold r07_Valid.f
 by_cases c1 : x.f0 < 1
 ·rw [decide_eq_false (p := validP x) (fun h => by obtain ⟨⟨a1, a2⟩, ⟨b1, b2, b3⟩, ⟨d1, d2⟩, ⟨e1, e2⟩, g, ⟨i1, i2⟩⟩ := h; omega)]
  rw [if_pos c1]
 ·rw [if_neg c1]
  by_cases c2 : x.f0 > 8
  ·rw [decide_eq_false (p := validP x) (fun h => by obtain ⟨⟨a1, a2⟩, ⟨b1, b2, b3⟩, ⟨d1, d2⟩, ⟨e1, e2⟩, g, ⟨i1, i2⟩⟩ := h; omega)]
   rw [if_pos c2]
  ·rw [if_neg c2]
   by_cases c3 : x.f1 < 0
   ·rw [decide_eq_false (p := validP x) (fun h => by obtain ⟨⟨a1, a2⟩, ⟨b1, b2, b3⟩, ⟨d1, d2⟩, ⟨e1, e2⟩, g, ⟨i1, i2⟩⟩ := h; omega)]
    rw [if_pos c3]
   ·rw [if_neg c3]
    by_cases c4 : x.f1 > x.f2
    ·rw [decide_eq_false (p := validP x) (fun h => by obtain ⟨⟨a1, a2⟩, ⟨b1, b2, b3⟩, ⟨d1, d2⟩, ⟨e1, e2⟩, g, ⟨i1, i2⟩⟩ := h; omega)]
     rw [if_pos c4]
    ·rw [if_neg c4]
     by_cases c5 : x.f2 > 1099511627776
     ·rw [decide_eq_false (p := validP x) (fun h => by obtain ⟨⟨a1, a2⟩, ⟨b1, b2, b3⟩, ⟨d1, d2⟩, ⟨e1, e2⟩, g, ⟨i1, i2⟩⟩ := h; omega)]
      rw [if_pos c5]
     ·rw [if_neg c5]
      by_cases c10 : (x.f5.size : Int) > 4096
      ·rw [decide_eq_false (p := validP x) (fun h => by obtain ⟨⟨a1, a2⟩, ⟨b1, b2, b3⟩, ⟨d1, d2⟩, ⟨e1, e2⟩, g, ⟨i1, i2⟩⟩ := h; omega)]
       rw [if_pos c10]
      ·rw [if_neg c10]
       by_cases c11 : x.f6 < 0
       ·rw [decide_eq_false (p := validP x) (fun h => by obtain ⟨⟨a1, a2⟩, ⟨b1, b2, b3⟩, ⟨d1, d2⟩, ⟨e1, e2⟩, g, ⟨i1, i2⟩⟩ := h; omega)]
        rw [if_pos c11]
       ·rw [if_neg c11]
        by_cases c12 : x.f6 > 12
        ·rw [decide_eq_false (p := validP x) (fun h => by obtain ⟨⟨a1, a2⟩, ⟨b1, b2, b3⟩, ⟨d1, d2⟩, ⟨e1, e2⟩, g, ⟨i1, i2⟩⟩ := h; omega)]
         rw [if_pos c12]
        ·rw [if_neg c12]
         by_cases c6 : x.f3 < -9007199254740992
         ·rw [decide_eq_false (p := validP x) (fun h => by obtain ⟨⟨a1, a2⟩, ⟨b1, b2, b3⟩, ⟨d1, d2⟩, ⟨e1, e2⟩, g, ⟨i1, i2⟩⟩ := h; omega)]
          rw [if_neg (by omega)]
         ·rw [if_pos (by omega)]
          by_cases c7 : x.f3 > 9007199254740992
          ·rw [decide_eq_false (p := validP x) (fun h => by obtain ⟨⟨a1, a2⟩, ⟨b1, b2, b3⟩, ⟨d1, d2⟩, ⟨e1, e2⟩, g, ⟨i1, i2⟩⟩ := h; omega)]
           rw [if_neg (by omega)]
          ·rw [if_pos (by omega)]
           by_cases c8 : x.f4 < -9007199254740992
           ·rw [decide_eq_false (p := validP x) (fun h => by obtain ⟨⟨a1, a2⟩, ⟨b1, b2, b3⟩, ⟨d1, d2⟩, ⟨e1, e2⟩, g, ⟨i1, i2⟩⟩ := h; omega)]
            rw [if_neg (by omega)]
           ·rw [if_pos (by omega)]
            by_cases c9 : x.f4 > 9007199254740992
            ·rw [decide_eq_false (p := validP x) (fun h => by obtain ⟨⟨a1, a2⟩, ⟨b1, b2, b3⟩, ⟨d1, d2⟩, ⟨e1, e2⟩, g, ⟨i1, i2⟩⟩ := h; omega)]
             rw [decide_eq_false (by omega)]
            ·rw [decide_eq_true (by omega), decide_eq_true (show validP x from ⟨by omega, by omega, by omega, by omega, by omega, by omega⟩)]
theorem acc_tail (s : StT) (x : EvT) : (if decide (validP x) = true then (if x.f0 = 1 then (if x.f6 = 0 then (if x.f1 ≥ x.f2 then (some false) else (if x.f3 < 0 then (some false) else (if x.f3 > 3 then (some false) else (if s.f0 = 0 then (some true) else (some (x.f1 == s.f1)))))) else (some false)) else (some false)) else (some false)) = some (decide (accP s x)) := by
 by_cases hv : validP x
 ·rw [if_pos (decide_eq_true hv)]
  by_cases h1 : x.f0 = 1
  ·rw [if_pos h1]
   by_cases h2 : x.f6 = 0
   ·rw [if_pos h2]
    by_cases h3 : x.f1 ≥ x.f2
    ·rw [if_pos h3, decide_eq_false (fun h => by have := h.2.2.2.1; omega)]
    ·rw [if_neg h3]
     by_cases h4 : x.f3 < 0
     ·rw [if_pos h4, decide_eq_false (fun h => by have := h.2.2.2.2.1; omega)]
     ·rw [if_neg h4]
      by_cases h5 : x.f3 > 3
      ·rw [if_pos h5, decide_eq_false (fun h => by have := h.2.2.2.2.1; omega)]
      ·rw [if_neg h5]
       by_cases h6 : s.f0 = 0
       ·rw [if_pos h6, decide_eq_true (show accP s x from ⟨hv, h1, h2, by omega, by omega, .inl h6⟩)]
       ·rw [if_neg h6]
        by_cases h7 : x.f1 = s.f1
        ·rw [decide_eq_true (show accP s x from ⟨hv, h1, h2, by omega, by omega, .inr h7⟩), beq_iff_eq.mpr h7]
        ·rw [decide_eq_false (fun h : accP s x => by have := h.2.2.2.2.2; omega), beq_eq_false_iff_ne.mpr h7]
   ·rw [if_neg h2, decide_eq_false (fun h => h2 h.2.2.1)]
  ·rw [if_neg h1, decide_eq_false (fun h => h1 h.2.1)]
 ·rw [if_neg (by simp [hv]), decide_eq_false (fun h => hv h.1)]
theorem accepted_eq (k : Nat) (s : StT) (x : EvT) : i2c_accepted.f (k + 2) s.f0 s.f1 s.f2 s.f3 s.f4 s.f5 s.f6 s.f7 x.f0 x.f1 x.f2 x.f3 x.f4 x.f5 x.f6 = some (decide (accP s x)) := by
 unfold i2c_accepted.f
 rw [evValid_eq, Option.bind_some]
 exact acc_tail s x
theorem four {a : Int} (h : 0 ≤ a ∧ a ≤ 3) : a = 0 ∨ a = 1 ∨ a = 2 ∨ a = 3 := by omega
theorem change_eq (k : Nat) {a b : Int} (ha : 0 ≤ a ∧ a ≤ 3) (hb : 0 ≤ b ∧ b ≤ 3) : i2c_change.f (k + 2) a b = some (chgV a b) := by
 rcases four ha with rfl | rfl | rfl | rfl <;> rcases four hb with rfl | rfl | rfl | rfl <;> rfl
def SegI (s : StT) : Prop := (0 ≤ s.f3 ∧ s.f3 ≤ 8) ∧ (0 ≤ s.f4 ∧ s.f4 < 2 ^ s.f3.toNat) ∧ (0 ≤ s.f5 ∧ s.f5 ≤ 7) ∧ s.f7.size ≤ 4097
def Inv (s : StT) : Prop := (0 ≤ s.f6 ∧ s.f6 ≤ 3) ∧ (s.f0 = 2 → SegI s)
theorem pow8 {n : Int} (h : 0 ≤ n ∧ n ≤ 8) {a : Int} (ha : a < 2 ^ n.toNat) : a ≤ 255 := by
 have h1 : n.toNat ≤ 8 := by omega
 have h2 : (2 : Nat) ^ n.toNat ≤ 2 ^ 8 := Nat.pow_le_pow_right (by decide) h1
 have h3 : ((2 : Int) ^ n.toNat) = ((2 ^ n.toNat : Nat) : Int) := by push_cast; rfl
 omega
theorem auxV_bound {a v : Int} (d : Nat) (h : 0 ≤ a ∧ a ≤ 7) : 0 ≤ auxV a v d ∧ auxV a v d ≤ 7 := by
 unfold auxV
 split <;> split <;> split <;> omega
theorem bitV_segI {s : StT} (h : SegI s) {v : Int} (hv : v = 0 ∨ v = 1) : SegI (bitV s v) := by
 obtain ⟨h3, h4, h5, h7⟩ := h
 unfold bitV
 by_cases c : s.f3 < 8
 ·rw [if_pos c]
  refine ⟨⟨by show 0 ≤ s.f3 + 1; omega, by show s.f3 + 1 ≤ 8; omega⟩, ⟨by show 0 ≤ 2 * s.f4 + v; omega, ?_⟩, h5, h7⟩
  show 2 * s.f4 + v < 2 ^ (s.f3 + 1).toNat
  rw [show (s.f3 + 1).toNat = s.f3.toNat + 1 by omega, Int.pow_succ]
  omega
 ·rw [if_neg c]
  refine ⟨⟨Int.le_refl 0, (by decide : (0 : Int) ≤ 8)⟩, ⟨Int.le_refl 0, (by decide : (0 : Int) < 2 ^ (0 : Int).toNat)⟩, auxV_bound _ h5, ?_⟩
  show (if s.f7.size ≤ 4096 then s.f7 ++ (⟨#[UInt8.ofNat s.f4.toNat]⟩ : ByteArray) else s.f7).size ≤ 4097
  split
  ·rw [ByteArray.size_append]
   show s.f7.size + 1 ≤ 4097
   omega
  ·exact h7
theorem goV_inv {s : StT} (h : Inv s) {a b v : Int} (hv : 0 ≤ v ∧ v ≤ 3) : Inv (goV s a b v).1 := by
 unfold goV
 by_cases c0 : s.f0 = 0
 ·rw [if_pos c0]
  exact ⟨hv, fun h => absurd h (by decide : ¬ (1 : Int) = 2)⟩
 ·rw [if_neg c0]
  by_cases c1 : chgV s.f6 v = 1
  ·rw [if_pos c1]
   exact ⟨hv, fun _ => ⟨⟨Int.le_refl 0, (by decide : (0 : Int) ≤ 8)⟩, ⟨Int.le_refl 0, (by decide : (0 : Int) < 2 ^ (0 : Int).toNat)⟩, ⟨Int.le_refl 0, (by decide : (0 : Int) ≤ 7)⟩, (by decide : (0 : Nat) ≤ 4097)⟩⟩
  ·rw [if_neg c1]
   by_cases c2 : chgV s.f6 v = 2
   ·rw [if_pos c2]
    exact ⟨hv, fun h => absurd h (by decide : ¬ (1 : Int) = 2)⟩
   ·rw [if_neg c2]
    by_cases c3 : chgV s.f6 v = 3 ∧ s.f0 = 2
    ·rw [if_pos c3]
     have hs : SegI ⟨s.f0, b, s.f2, s.f3, s.f4, s.f5, v, s.f7⟩ := h.2 c3.2
     obtain ⟨e1, e2, e3⟩ := bitV_prev ⟨s.f0, b, s.f2, s.f3, s.f4, s.f5, v, s.f7⟩ (v / 2)
     exact ⟨by rw [e1]; exact hv, fun _ => bitV_segI hs (by omega)⟩
    ·rw [if_neg c3]
     exact ⟨hv, h.2⟩
theorem eight {a : Int} (h : 0 ≤ a ∧ a ≤ 7) : a = 0 ∨ a = 1 ∨ a = 2 ∨ a = 3 ∨ a = 4 ∨ a = 5 ∨ a = 6 ∨ a = 7 := by omega
def tp (s : StT) : TupT := (s.f0, s.f1, s.f2, s.f3, s.f4, s.f5, s.f6, s.f7)
theorem bit_eq (k : Nat) {s : StT} (h : SegI s) {v : Int} (hv : v = 0 ∨ v = 1) : i2c_bit.f (k + 1) s.f0 s.f1 s.f2 s.f3 s.f4 s.f5 s.f6 s.f7 v = some (tp (bitV s v)) := by
 have hp := pow8 h.1 h.2.1.2
 obtain ⟨h3, h4, h5, h7⟩ := h
 unfold i2c_bit.f bitV tp
 rw [w64 (x := s.f3 + 1) (by omega) (by omega)]
 by_cases c : s.f3 < 8
 ·rw [if_pos (by omega), if_pos c, w64 (x := 2 * s.f4) (by omega) (by omega), w64 (by omega) (by omega)]
 ·have e8 : s.f3 = 8 := by omega
  have e4 : s.f4 % 256 = s.f4 := by omega
  have es : strOfNums [s.f4] = ⟨#[UInt8.ofNat s.f4.toNat]⟩ := rfl
  rw [if_neg (by omega), if_neg c]
  simp only [i2c_bit.j0, Option.bind_some, e4, es]
  have hz : s.f7.size ≤ 4096 → s.f7.size + (⟨#[UInt8.ofNat s.f4.toNat]⟩ : ByteArray).size ≤ 9223372036854775807 := fun hh => by
   show s.f7.size + 1 ≤ _
   omega
  by_cases cs : s.f7.size ≤ 4096
  ·have cs' : (s.f7.size : Int) ≤ 4096 := by omega
   have hz' := hz cs
   simp only [cs, cs', hz', if_true, auxV]
   rcases eight h5 with e | e | e | e | e | e | e | e <;> rw [e] <;> rcases hv with rfl | rfl <;> rfl
  ·have cs' : ¬ (s.f7.size : Int) ≤ 4096 := by omega
   simp only [cs, cs', if_false, auxV]
   rcases eight h5 with e | e | e | e | e | e | e | e <;> rw [e] <;> rcases hv with rfl | rfl <;> rfl
theorem toList_nil (d : ByteArray) : d.toList = ([] : List UInt8) ↔ d.size = 0 := (toList_eq d).2.1
theorem bt_get (d : ByteArray) (h : 0 < d.size) : bt d 0 = ((d.get! 0).toNat : Int) := by
 unfold bt
 rw [dif_pos (show (0 : Int).toNat < d.size from h)]
 have : (d.get! 0) = d[(0 : Int).toNat]'h := by
  show d.data[0]! = d.data[0]'h
  exact getElem!_pos d.data 0 h
 rw [this]
theorem u8_and1 {a : Int} (h : 0 ≤ a ∧ a ≤ 255) : Go.bits .and .u8 a 1 = a % 2 := by
 rw [u8_and a 1 h.1 (by omega) (by decide) (by decide), show (1 : Int).toNat = 1 from rfl, nat_mask1]
 omega
theorem fault_eq (k : Nat) {s : StT} (h : 0 ≤ s.f5 ∧ s.f5 ≤ 7) : i2c_fault.f (k + 1) s.f0 s.f1 s.f2 s.f3 s.f4 s.f5 s.f6 s.f7 = some (fltV s) := by
 have key : ∀ b : Bool, (b = true ↔ (0 < s.f7.size ∧ (s.f7.get! 0).toNat % 2 = 1)) → i2c_fault.j0 (k + 1) b s.f0 s.f1 s.f2 s.f3 s.f4 s.f5 s.f6 s.f7 = some (fltV s) := by
  intro b hb
  simp only [i2c_fault.j0]
  unfold fltV
  have e1 : ¬ ((s.f7.size : Int) > 1) ↔ ¬ (s.f7.size > 1) := by omega
  by_cases c3 : s.f3 > 1
  ·simp only [if_pos c3]
   rcases eight h with e | e | e | e | e | e | e | e <;> rw [e] <;> rfl
  ·simp only [if_neg c3]
   by_cases c7 : s.f7.size > 1
   ·have c7' : (s.f7.size : Int) > 1 := by omega
    have c0 : 0 < s.f7.size := by omega
    simp only [if_pos c7', c7, c0, true_and] at hb ⊢
    by_cases cb : (s.f7.get! 0).toNat % 2 = 1
    ·simp only [hb.mpr cb, cb, if_true, not_true_eq_false, and_false, if_false]
     rcases eight h with e | e | e | e | e | e | e | e <;> rw [e] <;> rfl
    ·have : b = false := by cases b with | false => rfl | true => exact absurd (hb.mp rfl) cb
     simp only [this, cb, not_false_eq_true, and_true]
     rcases eight h with e | e | e | e | e | e | e | e <;> rw [e] <;> rfl
   ·have c7' : ¬ (s.f7.size : Int) > 1 := by omega
    simp only [if_neg c7', c7, false_and, not_false_eq_true, and_true, ite_self]
    rcases eight h with e | e | e | e | e | e | e | e <;> rw [e] <;> rfl
 unfold i2c_fault.f
 by_cases c : s.f7.size = 0
 ·rw [if_pos ((toList_nil _).mpr c)]
  exact key false ⟨fun hh => absurd hh (by decide), fun hh => by omega⟩
 ·rw [if_neg (fun hh => c ((toList_nil _).mp hh)), if_pos (by omega)]
  refine key _ ?_
  rw [u8_and1 (bt_range _ _), bt_get _ (by omega)]
  simp only [beq_iff_eq]
  omega
def etup (x : EvT) : Int × Int × Int × Int × Int × ByteArray × Int := (x.f0, x.f1, x.f2, x.f3, x.f4, x.f5, x.f6)
theorem frame_eq (k : Nat) {s : StT} (h : 0 ≤ s.f5 ∧ s.f5 ≤ 7) (en stop : Int) : i2c_frame.f (k + 1) s.f0 s.f1 s.f2 s.f3 s.f4 s.f5 s.f6 s.f7 en stop = some (etup (frmV s en stop)) := by
 unfold i2c_frame.f frmV etup
 rw [fault_eq k h, Option.bind_some]
 by_cases c : s.f7.size = 0
 ·have e : s.f7 = ⟨#[]⟩ := by
   apply ByteArray.ext
   exact Array.toList_inj.mp (List.length_eq_zero_iff.mp c)
  rw [if_pos ((toList_nil _).mpr c), if_pos c, e]
  rfl
 ·have hb := (s.f7.get! 0).toNat_lt
  rw [if_neg (fun hh => c ((toList_nil _).mp hh)), if_pos (by omega), if_pos (by omega), if_neg c, bt_get _ (by omega), w64 (by omega) (by omega)]
theorem step_ev {c : Int} {s : StT} (hs : Inv s) (x : EvT) : ∀ k, i2c_Step.f (k + 5) c s.f0 s.f1 s.f2 s.f3 s.f4 s.f5 s.f6 s.f7 x.f0 x.f1 x.f2 x.f3 x.f4 x.f5 x.f6 = some (pk (stepV c s x).1 (stepV c s x).2) := by
 intro k
 unfold i2c_Step.f
 rw [(check1 c), Option.bind_some]
 by_cases hc : okC c
 ·rw [check_ok hc, if_pos rfl, accepted_eq, Option.bind_some]
  unfold stepV
  by_cases ha : accP s x
  ·rw [if_pos ⟨hc, ha⟩]
   have hd : (!decide (accP s x)) = false := by simp [ha]
   rw [hd]
   simp only [i2c_Step.j0, if_neg Bool.false_ne_true]
   obtain ⟨hv, h1, h6, h12, h3, h0⟩ := ha
   unfold goV pk
   by_cases c0 : s.f0 = 0
   ·simp only [if_pos c0]
   ·simp only [if_neg c0]
    rw [change_eq (k + 2) hs.1 h3, Option.bind_some]
    have hfr : ∀ stop, s.f0 = 2 → i2c_frame.f (k + 3) s.f0 x.f2 s.f2 s.f3 s.f4 s.f5 x.f3 s.f7 x.f1 stop = some (etup (frmV s x.f1 stop)) := fun stop h2 => frame_eq (k + 2) (s := ⟨s.f0, x.f2, s.f2, s.f3, s.f4, s.f5, x.f3, s.f7⟩) (hs.2 h2).2.2.1 x.f1 stop
    by_cases c1 : chgV s.f6 x.f3 = 1
    ·simp only [if_pos c1, i2c_Step.j1]
     by_cases c2 : s.f0 = 2
     ·simp only [if_pos c2]
      rw [hfr 0 c2, Option.bind_some]
      rfl
     ·simp only [if_neg c2]
    ·simp only [if_neg c1]
     by_cases c1' : chgV s.f6 x.f3 = 2
     ·simp only [if_pos c1', i2c_Step.j1]
      by_cases c2 : s.f0 = 2
      ·simp only [if_pos c2]
       rw [hfr 1 c2, Option.bind_some]
       rfl
      ·simp only [if_neg c2]
     ·simp only [if_neg c1']
      by_cases c3 : chgV s.f6 x.f3 = 3
      ·by_cases c2 : s.f0 = 2
       ·simp only [if_pos c3, if_pos c2, if_pos (And.intro c3 c2)]
        have eb : Go.bits .and .i64 (x.f3 / 2) 1 = x.f3 / 2 := by
         rcases four h3 with e | e | e | e <;> rw [e] <;> rfl
        have hb := bit_eq (k + 3) (s := ⟨s.f0, x.f2, s.f2, s.f3, s.f4, s.f5, x.f3, s.f7⟩) (hs.2 c2) (v := x.f3 / 2) (by omega)
        rw [eb]
        rw [hb, Option.bind_some]
        rfl
       ·simp only [if_pos c3, if_neg c2, if_neg (fun h : chgV s.f6 x.f3 = 3 ∧ s.f0 = 2 => c2 h.2)]
      ·simp only [if_neg c3, if_neg (fun h : chgV s.f6 x.f3 = 3 ∧ s.f0 = 2 => c3 h.1)]
  ·rw [if_neg (fun h => ha h.2)]
   have hd : (!decide (accP s x)) = true := by simp [ha]
   rw [hd]
   rfl
 ·rw [check_no hc, if_neg (by decide)]
  unfold stepV
  rw [if_neg (fun h => hc h.1)]
  rfl
theorem ev_step {α : Type} {g f : Nat → Option α} {r : α} (n : Nat) (h : ∀ k, n ≤ k → g (k + 1) = f k) (hf : Ev f r) : Ev g r := by
 obtain ⟨K, hK⟩ := hf
 refine ⟨max K n + 1, fun k hk => ?_⟩
 have e : k = (k - 1) + 1 := by omega
 rw [e, h _ (by omega)]
 exact hK _ (by omega)
theorem ev_same {α : Type} {g f : Nat → Option α} {r : α} (n : Nat) (h : ∀ k, n ≤ k → g k = f k) (hf : Ev f r) : Ev g r := by
 obtain ⟨K, hK⟩ := hf
 exact ⟨max K n, fun k hk => by rw [h _ (by omega)]; exact hK _ (by omega)⟩
theorem step_at {c : Int} {s : StT} (hs : Inv s) (x : EvT) {k : Nat} (hk : 5 ≤ k) : i2c_Step.f k c s.f0 s.f1 s.f2 s.f3 s.f4 s.f5 s.f6 s.f7 x.f0 x.f1 x.f2 x.f3 x.f4 x.f5 x.f6 = some (pk (stepV c s x).1 (stepV c s x).2) := by
 have h := step_ev (c := c) hs x (k - 5)
 rwa [show k - 5 + 5 = k by omega] at h
theorem rdE_mid (pre post : List EvT) (x : EvT) : rd_T27 (pre ++ x :: post) (pre.length : Int) = x := by simp [rd_T27, List.getD]
theorem midl_lt {α : Type} (pre post : List α) (x : α) : (pre.length : Int) < ((pre ++ x :: post).length : Int) := by
 simp only [List.length_append, List.length_cons]
 omega
def runV (c : Int) : StT → List EvT → StT × List EvT
 | s, [] => (s, [])
 | s, x :: l => ((runV c (stepV c s x).1 l).1, (stepV c s x).2 ++ (runV c (stepV c s x).1 l).2)
def endV (c : Int) (s : StT) : List EvT := if okC c ∧ s.f0 = 2 then [⟨5, s.f2, s.f1, 0, 0, ⟨#[]⟩, 7⟩] else []
def z0 : StT := ⟨0, 0, 0, 0, 0, 0, 0, ⟨#[]⟩⟩
def decV (c : Int) (l : List EvT) : List EvT := (runV c z0 l).2 ++ endV c (runV c z0 l).1
theorem runV_append (c : Int) : ∀ (p q : List EvT) (s : StT), runV c s (p ++ q) = ((runV c (runV c s p).1 q).1, (runV c s p).2 ++ (runV c (runV c s p).1 q).2)
 | [], q, s => by simp [runV]
 | x :: p, q, s => by
  simp only [List.cons_append, runV]
  rw [runV_append c p q, List.append_assoc]
theorem goV_len (s : StT) (a b v : Int) : (goV s a b v).2.length ≤ 1 := by
 unfold goV
 repeat' split
 all_goals simp
theorem stepV_len (c : Int) (s : StT) (x : EvT) : (stepV c s x).2.length ≤ 1 := by
 unfold stepV
 split
 ·exact goV_len ..
 ·exact Nat.zero_le _
theorem stepV_inv {c : Int} {s : StT} (h : Inv s) (x : EvT) : Inv (stepV c s x).1 := by
 unfold stepV
 split
 ·rename_i ha
  exact goV_inv h ha.2.2.2.2.2.1
 ·exact h
theorem runV_len {c : Int} : ∀ (l : List EvT) (s : StT), (runV c s l).2.length ≤ l.length
 | [], s => Nat.le_refl _
 | x :: l, s => by
  have h1 := stepV_len c s x
  have h2 := runV_len (c := c) l (stepV c s x).1
  simp only [runV, List.length_append, List.length_cons]
  omega
theorem endV_len (c : Int) (s : StT) : (endV c s).length ≤ 1 := by
 unfold endV
 split
 ·exact Nat.le_refl _
 ·exact Nat.zero_le _
theorem decV_len (c : Int) (l : List EvT) : (decV c l).length ≤ l.length + 1 := by
 have h1 := runV_len (c := c) l z0
 have h2 := endV_len c (runV c z0 l).1
 unfold decV
 rw [List.length_append]
 omega
theorem inv_z0 : Inv z0 := ⟨⟨Int.le_refl 0, (by decide : (0 : Int) ≤ 3)⟩, fun h => absurd h (by decide : ¬ (0 : Int) = 2)⟩
theorem end_eq (c : Int) (s : StT) : i2c_End.f c s.f0 s.f1 s.f2 s.f3 s.f4 s.f5 s.f6 s.f7 = some (endV c s) := by
 unfold i2c_End.f endV
 rw [(check1 c), Option.bind_some]
 by_cases h : okC c
 ·rw [check_ok h, if_pos rfl]
  by_cases h2 : s.f0 = 2
  ·rw [if_pos h2, if_pos ⟨h, h2⟩]
  ·rw [if_neg h2, if_neg (fun hh => h2 hh.2)]
 ·rw [check_no h, if_neg (by decide), if_neg (fun hh => h hh.1)]
theorem dec_l0 {c : Int} : ∀ (post pre out : List EvT) (s : StT), Inv s → out.length + post.length + 1 < 2199023255552 → (pre ++ post).length ≤ 1099511627776 →
  Ev (fun k => i2c_Decode.l0 k out (pre ++ post) ((pre ++ post).length : Int) (pre.length : Int) c s.f0 s.f1 s.f2 s.f3 s.f4 s.f5 s.f6 s.f7) (out ++ ((runV c s post).2 ++ endV c (runV c s post).1))
 | [], pre, out, s, hs, ho, hl => by
  have hz := endV_len c s
  refine Ev.step (f := fun _ => some (out ++ endV c s)) (fun k => ?_) (Ev.now _)
  simp only [i2c_Decode.l0]
  rw [if_neg (by simp), end_eq, Option.bind_some, if_pos (by simp only [List.length_nil] at ho; omega)]
 | x :: post, pre, out, s, hs, ho, hl => by
  have hlt := midl_lt pre post x
  have hn : pre.length ≤ 9223372036854775806 := by
   simp only [List.length_append, List.length_cons] at hl
   omega
  have h1 := stepV_len c s x
  simp only [List.length_cons] at ho
  have ih := dec_l0 (c := c) post (pre ++ [x]) (out ++ (stepV c s x).2) (stepV c s x).1 (stepV_inv hs x) (by rw [List.length_append]; omega) (by simpa using hl)
  rw [← mid_snoc] at ih
  have er : out ++ (stepV c s x).2 ++ ((runV c (stepV c s x).1 post).2 ++ endV c (runV c (stepV c s x).1 post).1) = out ++ ((runV c s (x :: post)).2 ++ endV c (runV c s (x :: post)).1) := by
   simp only [runV, List.append_assoc]
  rw [er] at ih
  refine ev_step 5 (fun k hk => ?_) ih
  simp only [i2c_Decode.l0]
  rw [if_pos hlt, if_pos (by omega), if_pos hlt, rdE_mid, step_at hs x hk, Option.bind_some]
  refine (if_pos (show out.length + (stepV c s x).2.length < 2199023255552 by omega)).trans ?_
  rw [succ_mid _ _ hn]
  rfl
theorem dec_ev (c : Int) {l : List EvT} (hl : l.length ≤ 1099511627776) : Ev (fun k => i2c_Decode.f k c l) (decV c l) := by
 have h := dec_l0 (c := c) l [] [] z0 inv_z0 (by simp only [List.length_nil]; omega) (by simpa using hl)
 exact Ev.congr (fun k => rfl) h
theorem awake23_ev : Ev (fun k => lw_awake.f k) true := Ev.of (k := 100) (fun k => lw_awake.mono k) (by decide +kernel)
theorem awake23_then : Ev (fun k => (lw_awake.f k).bind fun t => some t) true := Ev.bind awake23_ev (Ev.now true)
theorem awk {g : Nat → Option Bool} (n : Nat) (h : ∀ k, n ≤ k → g k = (lw_awake.f k).bind fun t => some t) : Ev g true := ev_same n h awake23_then
theorem runV_no {c : Int} (hc : ¬ okC c) : ∀ (l : List EvT) (s : StT), runV c s l = (s, [])
 | [], s => rfl
 | x :: l, s => by
  have e : stepV c s x = (s, []) := by
   unfold stepV
   rw [if_neg (fun h => hc h.1)]
  simp only [runV, e, runV_no hc l s, List.append_nil]
theorem decV_no {c : Int} (hc : ¬ okC c) (l : List EvT) : decV c l = [] := by
 unfold decV endV
 rw [runV_no hc, if_neg (fun h => hc h.1)]
 rfl
def chainV : Option Int → List EvT → Prop
 | _, [] => True
 | p, x :: l => (validP x ∧ x.f0 = 1 ∧ x.f6 = 0 ∧ x.f1 < x.f2 ∧ (0 ≤ x.f3 ∧ x.f3 ≤ 3)) ∧ (∀ q, p = some q → x.f1 = q) ∧ chainV (some x.f2) l
def lvlP (x : EvT) : Prop := validP x ∧ x.f0 = 1 ∧ x.f6 = 0 ∧ x.f1 < x.f2 ∧ (0 ≤ x.f3 ∧ x.f3 ≤ 3)
theorem chain_no {L : List EvT} {i : Int} {x : EvT} (h0 : 0 ≤ i) (hi : i < (L.length : Int)) (hx : rd_T27 L i = x) (h : ¬ lvlP x) (k : Nat) : lw_chain.l0 (k + 2) L i = some false := by
 simp only [lw_chain.l0, hx]
 rw [if_pos hi, if_pos h0, refValid_eq, Option.bind_some]
 by_cases v : validP x
 ·rw [if_pos (decide_eq_true v)]
  by_cases h1 : x.f0 = 1
  ·rw [if_pos h1]
   by_cases h2 : x.f6 = 0
   ·rw [if_pos h2]
    by_cases h3 : x.f1 ≥ x.f2
    ·rw [if_pos h3]
     rfl
    ·rw [if_neg h3]
     by_cases h4 : x.f3 < 0
     ·rw [if_pos h4]
      rfl
     ·rw [if_neg h4]
      by_cases h5 : x.f3 > 3
      ·rw [decide_eq_true h5]
       rfl
      ·exact absurd ⟨v, h1, h2, by omega, by omega⟩ h
   ·rw [if_neg h2]
    rfl
  ·rw [if_neg h1]
   rfl
 ·rw [if_neg (by simp [v])]
  rfl
theorem chain_yes {L : List EvT} {i : Int} {x : EvT} (h0 : 0 ≤ i) (hi : i < (L.length : Int)) (hx : rd_T27 L i = x) (h : lvlP x) (k : Nat) : lw_chain.l0 (k + 1) L i = lw_chain.j1 k L i false x.f0 x.f1 x.f2 x.f3 x.f4 x.f5 x.f6 := by
 obtain ⟨v, h1, h2, h3, h4, h5⟩ := h
 simp only [lw_chain.l0, hx]
 rw [if_pos hi, if_pos h0, refValid_eq, Option.bind_some, if_pos (decide_eq_true v), if_pos h1, if_pos h2, if_neg (by omega), if_neg (by omega), decide_eq_false (by omega)]
theorem chain_l0 : ∀ (post pre : List EvT), (pre ++ post).length ≤ 140737488355328 →
  ∃ b : Bool, Ev (fun k => lw_chain.l0 k (pre ++ post) (pre.length : Int)) b ∧ (b = true → chainV (pre.getLast?.map (·.f2)) post)
 | [], pre, hl => ⟨true, Ev.step (f := fun _ => some true) (fun k => by
   simp only [lw_chain.l0]
   rw [if_neg (by simp)]) (Ev.now _), fun _ => trivial⟩
 | x :: post, pre, hl => by
  have hlt := midl_lt pre post x
  have hn : pre.length ≤ 9223372036854775806 := by
   simp only [List.length_append, List.length_cons] at hl
   omega
  have hx := rdE_mid pre post x
  obtain ⟨b, ih, hb⟩ := chain_l0 post (pre ++ [x]) (by simpa using hl)
  rw [← mid_snoc] at ih
  by_cases hv : lvlP x
  ·rcases snoc_cases pre with rfl | ⟨z, y, rfl⟩
   ·refine ⟨b, ?_, fun h => ⟨hv, (fun q e => by cases e), ?_⟩⟩
    ·have hj : Ev (fun k => lw_chain.j1 k ([] ++ x :: post) (([] : List EvT).length : Int) false x.f0 x.f1 x.f2 x.f3 x.f4 x.f5 x.f6) b := by
      refine Ev.step (fun k => ?_) ih
      simp only [lw_chain.j1, if_neg Bool.false_ne_true]
      rw [if_neg (by simp), succ_mid _ _ hn]
     exact Ev.step (fun k => chain_yes (by omega) hlt hx hv k) hj
    ·have := hb h
     simpa using this
   ·have hlt2 : ((z.length : Nat) : Int) < ((z ++ [y] ++ x :: post).length : Int) := by
     simp only [List.length_append, List.length_cons, List.length_nil]
     omega
    have hw : wrap64 (((z ++ [y]).length : Int) - 1) = (z.length : Int) := by
     simp only [List.length_append, List.length_cons, List.length_nil] at hn ⊢
     rw [w64 (by omega) (by omega)]
     omega
    have hy : rd_T27 (z ++ [y] ++ x :: post) (z.length : Int) = y := by
     rw [show z ++ [y] ++ x :: post = z ++ y :: (x :: post) by simp]
     exact rdE_mid z _ y
    have hgt : ((z ++ [y]).length : Int) > 0 := by
     simp only [List.length_append, List.length_cons, List.length_nil]
     omega
    by_cases e : x.f1 = y.f2
    ·refine ⟨b, ?_, fun h => ⟨hv, (fun q eq => by simp at eq; omega), ?_⟩⟩
     ·have hj : Ev (fun k => lw_chain.j1 k (z ++ [y] ++ x :: post) ((z ++ [y]).length : Int) false x.f0 x.f1 x.f2 x.f3 x.f4 x.f5 x.f6) b := by
       refine Ev.step (fun k => ?_) ih
       simp only [lw_chain.j1, if_neg Bool.false_ne_true]
       rw [if_pos hgt, hw, if_pos (by omega), if_pos hlt2, hy, if_pos e, succ_mid _ _ hn]
      exact Ev.step (fun k => chain_yes (by omega) hlt hx hv k) hj
     ·have := hb h
      simpa using this
    ·refine ⟨false, ?_, fun h => absurd h (by decide)⟩
     have hj : Ev (fun k => lw_chain.j1 k (z ++ [y] ++ x :: post) ((z ++ [y]).length : Int) false x.f0 x.f1 x.f2 x.f3 x.f4 x.f5 x.f6) false := by
      refine Ev.step (f := fun _ => some false) (fun k => ?_) (Ev.now _)
      simp only [lw_chain.j1, if_neg Bool.false_ne_true]
      rw [if_pos hgt, hw, if_pos (by omega), if_pos hlt2, hy, if_neg e]
     exact Ev.step (fun k => chain_yes (by omega) hlt hx hv k) hj
  ·exact ⟨false, ev_from 2 (fun k => chain_no (by omega) hlt hx hv k), fun h => absurd h (by decide)⟩
theorem chain_ev {l : List EvT} (hl : l.length ≤ 140737488355328) : ∃ b : Bool, Ev (fun k => lw_chain.f k l) b ∧ (b = true → chainV none l) := by
 obtain ⟨b, h1, h2⟩ := chain_l0 l [] (by simpa using hl)
 exact ⟨b, Ev.congr (fun k => rfl) h1, h2⟩
def Linked (s : StT) (p : Option Int) : Prop := s.f0 = 0 ∨ p = some s.f1
theorem chain_acc {s : StT} {p : Option Int} {x : EvT} {l : List EvT} (h : chainV p (x :: l)) (hs : Linked s p) : accP s x := by
 obtain ⟨⟨v, h1, h2, h3, h4⟩, h5, _⟩ := h
 exact ⟨v, h1, h2, h3, h4, hs.imp id (fun e => h5 _ e)⟩
theorem chain_step {c : Int} (hc : okC c) {s : StT} {p : Option Int} {x : EvT} {l : List EvT} (h : chainV p (x :: l)) (hs : Linked s p) : stepV c s x = goV s x.f1 x.f2 x.f3 ∧ Linked (goV s x.f1 x.f2 x.f3).1 (some x.f2) ∧ chainV (some x.f2) l := by
 refine ⟨?_, .inr (by rw [(goV_end s x.f1 x.f2 x.f3).2.2]), h.2.2⟩
 unfold stepV
 rw [if_pos ⟨hc, chain_acc h hs⟩]
theorem same07_l0 : ∀ (post pre : List EvT), (pre ++ post).length ≤ 140737488355328 → Ev (fun k => r07_Same.l0 k (pre ++ post) (pre ++ post) (pre.length : Int)) true
 | [], pre, hl => by
  refine Ev.step (f := fun _ => some true) (fun k => ?_) (Ev.now _)
  simp only [r07_Same.l0]
  rw [if_neg (by simp)]
 | x :: post, pre, hl => by
  have hlt := midl_lt pre post x
  have hn : pre.length ≤ 9223372036854775806 := by
   simp only [List.length_append, List.length_cons] at hl
   omega
  have ih := same07_l0 post (pre ++ [x]) (by simpa using hl)
  rw [← mid_snoc pre post x] at ih
  refine Ev.step (fun k => ?_) ih
  simp only [r07_Same.l0]
  rw [if_pos hlt, if_pos (by omega), if_pos hlt, if_neg (by simp), succ_mid pre x hn]
theorem same07_ev {l : List EvT} (hl : l.length ≤ 140737488355328) : Ev (fun k => r07_Same.f k l l) true := by
 have h := same07_l0 l [] (by simpa using hl)
 refine Ev.congr (fun k => ?_) h
 unfold r07_Same.f
 rw [if_pos rfl]
 rfl
theorem chain_at {c : Int} (hc : okC c) : ∀ (pre : List EvT) (s : StT) (p : Option Int) (x : EvT) (post : List EvT), chainV p (pre ++ x :: post) → Linked s p → accP (runV c s pre).1 x
 | [], s, p, x, post, h, hs => chain_acc h hs
 | y :: pre, s, p, x, post, h, hs => by
  obtain ⟨e, hl, hch⟩ := chain_step hc h hs
  simp only [runV]
  rw [e]
  exact chain_at hc pre _ _ x post hch hl
theorem dec_split {c : Int} {pre post : List EvT} {x : EvT} {m : Int} (h : chainV none (pre ++ x :: post)) (h1 : x.f1 < m) (h2 : m < x.f2) :
  decV c (pre ++ (⟨x.f0, x.f1, m, x.f3, x.f4, x.f5, x.f6⟩ : EvT) :: ⟨x.f0, m, x.f2, x.f3, x.f4, x.f5, x.f6⟩ :: post) = decV c (pre ++ x :: post) := by
 by_cases hc : okC c
 ·have ha := chain_at hc pre z0 none x post h (.inl rfl)
  obtain ⟨⟨v1, v2, v3, v4, v5, v6⟩, a1, a2, a3, a4, a5⟩ := ha
  have hA : accP (runV c z0 pre).1 ⟨x.f0, x.f1, m, x.f3, x.f4, x.f5, x.f6⟩ := ⟨⟨v1, ⟨v2.1, by show x.f1 ≤ m; omega, by show m ≤ _; omega⟩, v3, v4, v5, v6⟩, a1, a2, h1, a4, a5⟩
  obtain ⟨g1, g2, g3⟩ := goV_end (runV c z0 pre).1 x.f1 m x.f3
  have hB : accP (goV (runV c z0 pre).1 x.f1 m x.f3).1 ⟨x.f0, m, x.f2, x.f3, x.f4, x.f5, x.f6⟩ := ⟨⟨v1, ⟨by show 0 ≤ m; omega, by show m ≤ x.f2; omega, v2.2.2⟩, v3, v4, v5, v6⟩, a1, a2, h2, a4, .inr g3.symm⟩
  have eA : stepV c (runV c z0 pre).1 ⟨x.f0, x.f1, m, x.f3, x.f4, x.f5, x.f6⟩ = goV (runV c z0 pre).1 x.f1 m x.f3 := if_pos ⟨hc, hA⟩
  have eB : stepV c (goV (runV c z0 pre).1 x.f1 m x.f3).1 ⟨x.f0, m, x.f2, x.f3, x.f4, x.f5, x.f6⟩ = goV (goV (runV c z0 pre).1 x.f1 m x.f3).1 m x.f2 x.f3 := if_pos ⟨hc, hB⟩
  have eX : stepV c (runV c z0 pre).1 x = goV (runV c z0 pre).1 x.f1 x.f2 x.f3 := if_pos ⟨hc, ⟨⟨v1, v2, v3, v4, v5, v6⟩, a1, a2, a3, a4, a5⟩⟩
  obtain ⟨s1, s2⟩ := goV_split (runV c z0 pre).1 x.f1 m x.f2 x.f3
  have er : runV c z0 (pre ++ (⟨x.f0, x.f1, m, x.f3, x.f4, x.f5, x.f6⟩ : EvT) :: ⟨x.f0, m, x.f2, x.f3, x.f4, x.f5, x.f6⟩ :: post) = runV c z0 (pre ++ x :: post) := by
   rw [runV_append, runV_append]
   simp only [runV]
   rw [eA, eB, eX, s1, s2]
   simp
  unfold decV
  rw [er]
 ·rw [decV_no hc, decV_no hc]
theorem pieces_j1 {c m : Int} {pre post : List EvT} {x : EvT} (h4 : (pre ++ x :: post).length ≤ 4000) (hc : chainV none (pre ++ x :: post)) (m1 : x.f1 < m) (m2 : m < x.f2) : Ev (fun k => lw_I2cPieces.j1 k (pre ++ x :: post) (pre.length : Int) m false c x.f0 x.f1 x.f2 x.f3 x.f4 x.f5 x.f6) true := by
 have hlen : (pre ++ (⟨x.f0, x.f1, m, x.f3, x.f4, x.f5, x.f6⟩ : EvT) :: ⟨x.f0, m, x.f2, x.f3, x.f4, x.f5, x.f6⟩ :: post).length ≤ 1099511627776 := by
  simp only [List.length_append, List.length_cons] at h4 ⊢
  omega
 have hd := dec_ev c hlen
 rw [dec_split hc m1 m2] at hd
 have hd2 := dec_ev c (l := pre ++ x :: post) (Nat.le_trans h4 (by decide))
 have hs := same07_ev (l := decV c (pre ++ x :: post)) (Nat.le_trans (decV_len c _) (Nat.le_trans (Nat.succ_le_succ h4) (by decide)))
 have h3 := Ev.bind (f := fun k (t653 : Bool) => if t653 = true then ((lw_awake.f k).bind fun t654 => some t654) else none) hs (awk 0 (fun k _ => if_pos rfl))
 have hfin := Ev.bind (f := fun k (t647 : List EvT) => (i2c_Decode.f k c (pre ++ x :: post)).bind fun t650 => (r07_Same.f k t647 t650).bind fun t653 => if t653 = true then ((lw_awake.f k).bind fun t654 => some t654) else none) hd (Ev.bind hd2 h3)
 have hL : ((pre ++ x :: post).length : Int) = (pre.length : Int) + post.length + 1 := by
  simp only [List.length_append, List.length_cons]
  omega
 have hN : pre.length + post.length + 1 ≤ 4000 := by
  simp only [List.length_append, List.length_cons] at h4
  omega
 have w1 : wrap64 (((pre ++ x :: post).length : Int) + 1) = (pre.length : Int) + post.length + 2 := by rw [hL, w64 (by omega) (by omega)]; omega
 have w2 : wrap64 ((pre.length : Int) + 1) = (pre.length : Int) + 1 := w64 (by omega) (by omega)
 have q1 : (0 : Int) ≤ (pre.length : Int) + post.length + 2 := by omega
 have q2 : ((pre.length : Int) + post.length + 2).toNat ≤ 4398046511104 := by omega
 have q3 : (0 : Int) ≤ (pre.length : Int) := by omega
 have q4 : (pre.length : Int) ≤ ((pre ++ x :: post).length : Int) := by omega
 have q5 : (0 : Int) ≤ (pre.length : Int) + 1 := by omega
 have q6 : (pre.length : Int) + 1 ≤ ((pre ++ x :: post).length : Int) := by omega
 have q7 : (List.replicate 0 z27).length + pre.length < 2199023255552 := by simp only [List.length_replicate]; omega
 have q8 : (List.replicate 0 z27 ++ pre).length + ([(⟨x.f0, x.f1, m, x.f3, x.f4, x.f5, x.f6⟩ : EvT), ⟨x.f0, m, x.f2, x.f3, x.f4, x.f5, x.f6⟩] : List EvT).length < 2199023255552 := by
  simp only [List.length_append, List.length_replicate, List.length_cons, List.length_nil]
  omega
 have q9 : (List.replicate 0 z27 ++ pre ++ [(⟨x.f0, x.f1, m, x.f3, x.f4, x.f5, x.f6⟩ : EvT), ⟨x.f0, m, x.f2, x.f3, x.f4, x.f5, x.f6⟩]).length + post.length < 2199023255552 := by
  simp only [List.length_append, List.length_replicate, List.length_cons, List.length_nil]
  omega
 clear hN hL h4 hlen
 have et : (pre ++ x :: post).take ((pre.length : Int)).toNat = pre := by rw [Int.toNat_natCast]; simp
 have ed : (pre ++ x :: post).drop ((pre.length : Int) + 1).toNat = post := by
  rw [show ((pre.length : Int) + 1).toNat = pre.length + 1 by omega, show pre ++ x :: post = (pre ++ [x]) ++ post by simp]
  exact List.drop_left' (by simp)
 have ea : List.replicate 0 z27 ++ pre ++ [(⟨x.f0, x.f1, m, x.f3, x.f4, x.f5, x.f6⟩ : EvT), ⟨x.f0, m, x.f2, x.f3, x.f4, x.f5, x.f6⟩] ++ post = pre ++ (⟨x.f0, x.f1, m, x.f3, x.f4, x.f5, x.f6⟩ : EvT) :: ⟨x.f0, m, x.f2, x.f3, x.f4, x.f5, x.f6⟩ :: post := by simp [List.replicate]
 refine Ev.step (fun k => ?_) hfin
 rw [lw_I2cPieces.j1]
 refine (if_neg Bool.false_ne_true).trans ?_
 rw [w1]
 refine (if_pos q1).trans ((if_pos q2).trans ?_)
 rw [Option.bind_some]
 refine (if_pos q3).trans ((if_pos q4).trans ?_)
 rw [Option.bind_some, et]
 refine (if_pos q7).trans ?_
 rw [Option.bind_some, Option.bind_some]
 refine (if_pos q8).trans ?_
 rw [Option.bind_some, w2]
 refine (if_pos q5).trans ((if_pos q6).trans ?_)
 rw [Option.bind_some, ed]
 refine (if_pos q9).trans ?_
 rw [ea]
theorem I2cPieces_pure (c : Int) {l : List EvT} {n m : Int} (hl : l.length ≤ 140737488355328) : ∃ k, lw_I2cPieces.f k c l n m = some true := by
 refine Ev.rounds ?_
 unfold lw_I2cPieces.f
 have hyes : Ev (fun k => lw_I2cPieces.j0 k l n m true c) true := Ev.step (fun k => by simp only [lw_I2cPieces.j0, if_true]) awake23_then
 by_cases h4 : (l.length : Int) > 4000
 ·exact Ev.congr (fun k => if_pos h4) hyes
 ·refine Ev.congr (fun k => if_neg h4) ?_
  by_cases n0 : n < 0
  ·exact Ev.congr (fun k => if_pos n0) hyes
  ·refine Ev.congr (fun k => if_neg n0) ?_
   by_cases n1 : n ≥ (l.length : Int)
   ·exact Ev.congr (fun k => if_pos n1) hyes
   ·refine Ev.congr (fun k => if_neg n1) ?_
    obtain ⟨b, hb, hch⟩ := chain_ev hl
    refine Ev.bind hb ?_
    cases b with
    | false => exact hyes
    | true =>
     have hc := hch rfl
     obtain ⟨pre, x, post, rfl, hp⟩ : ∃ pre x post, l = pre ++ x :: post ∧ (pre.length : Int) = n := by
      have hlt : n.toNat < l.length := by omega
      exact ⟨l.take n.toNat, l[n.toNat], l.drop (n.toNat + 1), by rw [← List.drop_eq_getElem_cons hlt, List.take_append_drop], by rw [List.length_take]; omega⟩
     subst hp
     have hlt := midl_lt pre post x
     have hx := rdE_mid pre post x
     have p0 : (0 : Int) ≤ (pre.length : Int) := Int.natCast_nonneg _
     have h4' : (pre ++ x :: post).length ≤ 4000 := by omega
     have j1yes : Ev (fun k => lw_I2cPieces.j1 k (pre ++ x :: post) (pre.length : Int) m true c x.f0 x.f1 x.f2 x.f3 x.f4 x.f5 x.f6) true := Ev.step (fun k => by simp only [lw_I2cPieces.j1, if_true]) awake23_then
     by_cases m1 : m ≤ x.f1
     ·refine Ev.step (fun k => ?_) j1yes
      simp only [lw_I2cPieces.j0, Bool.not_true, if_neg Bool.false_ne_true, hx]
      exact (if_pos p0).trans ((if_pos hlt).trans (if_pos m1))
     ·by_cases m2 : m ≥ x.f2
      ·refine Ev.step (fun k => ?_) j1yes
       simp only [lw_I2cPieces.j0, Bool.not_true, if_neg Bool.false_ne_true, hx, decide_eq_true m2]
       exact (if_pos p0).trans ((if_pos hlt).trans (if_neg m1))
      ·have hj := pieces_j1 (c := c) h4' hc (Int.not_le.mp m1) (Int.not_le.mp m2)
       refine Ev.step (fun k => ?_) hj
       simp only [lw_I2cPieces.j0, Bool.not_true, if_neg Bool.false_ne_true, hx, decide_eq_false m2]
       exact (if_pos p0).trans ((if_pos hlt).trans (if_neg m1))
end Go.Proofs.Ytdbpablakhfdcaa
