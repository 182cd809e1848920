/- The law I2cDecodes as a plain statement on numbers and lists: with enough rounds it answers true; conditions: each number is one of its kind, no list or string is longer than its memory allows. -/
import Derived.Laws.BitsAllLaws
import Derived.WalkKit
import Derived.Test.YtdbpablakhfdcaaWMore
import Derived.Test.YtdbpablakhfdcaaQx0
import Derived.Test.YtdbpablakhfdcaaQx3
import Derived.Test.YtdbpablakhfdcaaQx4
import Derived.Test.YtdbpablakhfdcaaQx5
import Derived.Test.YtdbpablakhfdcaaQx6
import Derived.Test.YtdbpablakhfdcaaQx7
import Derived.Test.YtdbpablakhfdcaaQx8
import Derived.Test.YtdbpablakhfdcaaQx10
import Derived.Test.YtdbpablakhfdcaaQx12
import Derived.Test.YtdbpablakhfdcaaQx13
import Derived.Test.YtdbpablakhfdcaaQx14
import Derived.Test.YtdbpablakhfdcaaQx15
import Derived.Test.YtdbpablakhfdcaaQx16
namespace Go.Proofs.Ytdbpablakhfdcaa
open Go Go.RowKit Go.Proofs.YtdbpablakhfdcaaW.PrintWords Go.Proofs.YtdbpablakhfdcaaW.PrintLast Go.Proofs.Ytdbpablakhfdcaa.Q
set_option linter.unusedVariables false
theorem w64 {x : Int} (h0 : -9223372036854775808 ≤ x) (h1 : x ≤ 9223372036854775807) : wrap64 x = x := by
 unfold wrap64
 omega
theorem succ_mid {α : Type} (pre : List α) (x : α) (h : pre.length ≤ 9223372036854775806) : wrap64 ((pre.length : Int) + 1) = ((pre ++ [x]).length : Int) := by
 rw [w64 (by omega) (by omega)]
 simp
theorem mid_snoc {α : Type} (pre post : List α) (x : α) : pre ++ x :: post = (pre ++ [x]) ++ post := by simp
abbrev ItT := S49
abbrev EvT := S27
structure StT where
 f0 : Int
 f1 : Int
 f2 : Int
 f3 : Int
 f4 : Int
 f5 : Int
 f6 : Int
 f7 : ByteArray
theorem e_app (b : ByteArray) : (⟨#[]⟩ : ByteArray) ++ b = b := ByteArray.empty_append
theorem app_e (b : ByteArray) : b ++ (⟨#[]⟩ : ByteArray) = b := ByteArray.append_empty
def chgV (was is : Int) : Int :=
 if was % 2 = 1 ∧ is % 2 = 1 ∧ was / 2 = 1 ∧ is / 2 = 0 then 1
 else if was % 2 = 1 ∧ is % 2 = 1 ∧ was / 2 = 0 ∧ is / 2 = 1 then 2
 else if was % 2 = 0 ∧ is % 2 = 1 then 3 else 0
def auxV (a v : Int) (d : Nat) : Int := (if a / 2 % 2 = 1 then 1 else a % 2) + 2 * (if v = 0 then 0 else 1) + 4 * (if d ≤ 4096 then a / 4 % 2 else 1)
def bitV (s : StT) (v : Int) : StT :=
 if s.f3 < 8 then ⟨s.f0, s.f1, s.f2, s.f3 + 1, 2 * s.f4 + v, s.f5, s.f6, s.f7⟩
 else ⟨s.f0, s.f1, s.f2, 0, 0, auxV s.f5 v s.f7.size, s.f6, if s.f7.size ≤ 4096 then s.f7 ++ ⟨#[UInt8.ofNat s.f4.toNat]⟩ else s.f7⟩
def fltV (s : StT) : Int := if s.f5 / 4 % 2 = 1 then 8 else if s.f3 > 1 then 7 else if s.f5 % 2 = 1 then 10 else if s.f5 / 2 % 2 = 1 ∧ ¬ (s.f7.size > 1 ∧ (s.f7.get! 0).toNat % 2 = 1) then 10 else 0
def frmV (s : StT) (en stop : Int) : EvT := ⟨5, s.f2, en, if s.f7.size = 0 then -1 else ((s.f7.get! 0).toNat : Int), stop, s.f7.extract 1 s.f7.size, fltV s⟩
def goV (s : StT) (a b v : Int) : StT × List EvT :=
 if s.f0 = 0 then (⟨1, b, 0, 0, 0, 0, v, (⟨#[]⟩ : ByteArray)⟩, [])
 else if chgV s.f6 v = 1 then (⟨2, b, a, 0, 0, 0, v, (⟨#[]⟩ : ByteArray)⟩, if s.f0 = 2 then [frmV s a 0] else [])
 else if chgV s.f6 v = 2 then (⟨1, b, 0, 0, 0, 0, v, (⟨#[]⟩ : ByteArray)⟩, if s.f0 = 2 then [frmV s a 1] else [])
 else if chgV s.f6 v = 3 ∧ s.f0 = 2 then (bitV ⟨s.f0, b, s.f2, s.f3, s.f4, s.f5, v, s.f7⟩ (v / 2), [])
 else (⟨s.f0, b, s.f2, s.f3, s.f4, s.f5, v, s.f7⟩, [])
theorem bitV_prev (s : StT) (v : Int) : (bitV s v).f6 = s.f6 ∧ (bitV s v).f0 = s.f0 ∧ (bitV s v).f1 = s.f1 := by
 unfold bitV
 split <;> exact ⟨rfl, rfl, rfl⟩
theorem chgV_read {p w : Int} (hp : p % 2 = 0) (hw : w % 2 = 1) : chgV p w = 3 := by
 unfold chgV
 rw [if_neg (by omega), if_neg (by omega), if_pos ⟨hp, hw⟩]
theorem goV_3 (s : StT) (a b w : Int) (h0 : s.f0 = 2) (hc : chgV s.f6 w = 3) : goV s a b w = (bitV ⟨s.f0, b, s.f2, s.f3, s.f4, s.f5, w, s.f7⟩ (w / 2), []) := by
 unfold goV
 rw [hc, if_neg (by omega), if_neg (by decide), if_neg (by decide), if_pos ⟨rfl, h0⟩]
theorem goV_1 (s : StT) (a b w : Int) (h0 : s.f0 ≠ 0) (hc : chgV s.f6 w = 1) : goV s a b w = (⟨2, b, a, 0, 0, 0, w, (⟨#[]⟩ : ByteArray)⟩, if s.f0 = 2 then [frmV s a 0] else []) := by
 unfold goV
 rw [hc, if_neg h0, if_pos rfl]
theorem goV_2 (s : StT) (a b w : Int) (h0 : s.f0 ≠ 0) (hc : chgV s.f6 w = 2) : goV s a b w = (⟨1, b, 0, 0, 0, 0, w, (⟨#[]⟩ : ByteArray)⟩, if s.f0 = 2 then [frmV s a 1] else []) := by
 unfold goV
 rw [hc, if_neg h0, if_neg (by decide), if_pos rfl]
def ItOk (x : ItT) : Prop := 0 ≤ x.f0 ∧ (0 ≤ x.f1 ∧ x.f1 ≤ 255) ∧ (x.f2 = 0 ∨ x.f2 = 1) ∧ x.f3.size ≤ 4096 ∧ (x.f4 = 0 ∨ x.f4 = 10) ∧ (x.f4 = 10 → x.f3.size = 0)
def segV (x : ItT) : ByteArray := (⟨#[UInt8.ofNat x.f1.toNat]⟩ : ByteArray) ++ x.f3
theorem segV_facts {x : ItT} (h : ItOk x) : (segV x).size = 1 + x.f3.size ∧ ((segV x).get! 0).toNat = x.f1.toNat ∧ (segV x).extract 1 (segV x).size = x.f3 := by
 obtain ⟨h0, ⟨h1, h2⟩, h3, h4, h5, h6⟩ := h
 have hs : (segV x).size = 1 + x.f3.size := by unfold segV; rw [ByteArray.size_append]; rfl
 refine ⟨hs, ?_, ?_⟩
 ·have e : (segV x).get! 0 = UInt8.ofNat x.f1.toNat := by
   have : (segV x).data[0]! = UInt8.ofNat x.f1.toNat := by
    unfold segV
    rw [ByteArray.data_append, getElem!_pos _ 0 (by simp; omega), Array.getElem_append_left (by simp)]
    rfl
   exact this
  rw [e, UInt8.toNat_ofNat']
  omega
 ·apply ByteArray.ext
  rw [ByteArray.data_extract, hs]
  unfold segV
  rw [ByteArray.data_append]
  apply Array.toList_inj.mp
  rw [Array.toList_extract, Array.toList_append]
  show List.take (1 + x.f3.size - 1) (List.drop 1 ([UInt8.ofNat x.f1.toNat] ++ x.f3.data.toList)) = x.f3.data.toList
  rw [Nat.add_sub_cancel_left]
  exact List.take_of_length_le (Nat.le_refl _)
theorem toList_eq (d : ByteArray) : d.toList.toArray = d.data ∧ (d.toList = [] ↔ d.size = 0) ∧ d.toList.length = d.size := by
 have e : d.toList = d.data.toList := by simp [ByteArray.toList_eq]
 refine ⟨by rw [e], ?_, by rw [e]; rfl⟩
 rw [e]
 exact ⟨fun h => by show d.data.toList.length = 0; rw [h]; rfl, fun h => List.length_eq_zero_iff.mp h⟩
theorem ev_from {α : Type} {g : Nat → Option α} {r : α} (n : Nat) (h : ∀ k, g (k + n) = some r) : Ev g r :=
 ⟨n, fun k hk => by have := h (k - n); rwa [show k - n + n = k by omega] at this⟩
abbrev TupT := Int × Int × Int × Int × Int × Int × Int × ByteArray
def pk (s : StT) (o : List EvT) : Int × Int × Int × Int × Int × Int × Int × ByteArray × List EvT := (s.f0, s.f1, s.f2, s.f3, s.f4, s.f5, s.f6, s.f7, o)
abbrev okC (c : Int) : Prop := 1 ≤ c ∧ c ≤ 1048576
abbrev validP (x : EvT) : Prop := (1 ≤ x.f0 ∧ x.f0 ≤ 8) ∧ (0 ≤ x.f1 ∧ x.f1 ≤ x.f2 ∧ x.f2 ≤ 1099511627776) ∧ (-9007199254740992 ≤ x.f3 ∧ x.f3 ≤ 9007199254740992) ∧ (-9007199254740992 ≤ x.f4 ∧ x.f4 ≤ 9007199254740992) ∧ x.f5.size ≤ 4096 ∧ (0 ≤ x.f6 ∧ x.f6 ≤ 12)
abbrev accP (s : StT) (x : EvT) : Prop := validP x ∧ x.f0 = 1 ∧ x.f6 = 0 ∧ x.f1 < x.f2 ∧ (0 ≤ x.f3 ∧ x.f3 ≤ 3) ∧ (s.f0 = 0 ∨ x.f1 = s.f1)
def stepV (c : Int) (s : StT) (x : EvT) : StT × List EvT := if okC c ∧ accP s x then goV s x.f1 x.f2 x.f3 else (s, [])
def check_i2c (c : Int) : Int := if okC c then 0 else 2
theorem check_eq (c : Int) : i2c_Check.f c = some (check_i2c c) ∧ r23_Check.f c = some (check_i2c c) := by
 unfold i2c_Check.f r23_Check.f check_i2c okC
 by_cases h0 : c < 1
 ·rw [if_pos h0, if_neg (by omega)]
  exact ⟨rfl, rfl⟩
 ·rw [if_neg h0]
  by_cases h1 : c > 1048576
  ·rw [if_pos h1, if_neg (by omega)]
   exact ⟨rfl, rfl⟩
  ·rw [if_neg h1, if_pos (by omega)]
   exact ⟨rfl, rfl⟩
theorem check_ok {c : Int} (h : okC c) : check_i2c c = 0 := if_pos h
theorem check_no {c : Int} (h : ¬ okC c) : check_i2c c = 2 := if_neg h
theorem evValid_eq (k : Nat) (x : EvT) : event_Valid.f (k + 2) x.f0 x.f1 x.f2 x.f3 x.f4 x.f5 x.f6 = some (decide (validP x)) := by
 unfold event_Valid.f
 by_cases c1 : x.f0 < 1
 ·rw [decide_eq_false (p := validP x) (fun h => by obtain ⟨⟨a1, a2⟩, ⟨b1, b2, b3⟩, ⟨d1, d2⟩, ⟨e1, e2⟩, g, ⟨i1, i2⟩⟩ := h; omega)]
  rw [if_pos c1]
  rfl
 ·rw [if_neg c1]
  by_cases c2 : x.f0 > 8
  ·rw [decide_eq_false (p := validP x) (fun h => by obtain ⟨⟨a1, a2⟩, ⟨b1, b2, b3⟩, ⟨d1, d2⟩, ⟨e1, e2⟩, g, ⟨i1, i2⟩⟩ := h; omega)]
   rw [decide_eq_true c2]
   rfl
  ·rw [decide_eq_false c2]
   simp only [event_Valid.j0, if_neg Bool.false_ne_true]
   by_cases c3 : x.f1 < 0
   ·rw [decide_eq_false (p := validP x) (fun h => by obtain ⟨⟨a1, a2⟩, ⟨b1, b2, b3⟩, ⟨d1, d2⟩, ⟨e1, e2⟩, g, ⟨i1, i2⟩⟩ := h; omega)]
    rw [if_pos c3]
    rfl
   ·rw [if_neg c3]
    by_cases c4 : x.f1 > x.f2
    ·rw [decide_eq_false (p := validP x) (fun h => by obtain ⟨⟨a1, a2⟩, ⟨b1, b2, b3⟩, ⟨d1, d2⟩, ⟨e1, e2⟩, g, ⟨i1, i2⟩⟩ := h; omega)]
     rw [if_pos c4]
     rfl
    ·rw [if_neg c4]
     by_cases c5 : x.f2 > 1099511627776
     ·rw [decide_eq_false (p := validP x) (fun h => by obtain ⟨⟨a1, a2⟩, ⟨b1, b2, b3⟩, ⟨d1, d2⟩, ⟨e1, e2⟩, g, ⟨i1, i2⟩⟩ := h; omega)]
      rw [decide_eq_true c5]
      rfl
     ·rw [decide_eq_false c5]
      simp only [event_Valid.j1, if_neg Bool.false_ne_true]
      by_cases c6 : x.f3 < -9007199254740992
      ·rw [decide_eq_false (p := validP x) (fun h => by obtain ⟨⟨a1, a2⟩, ⟨b1, b2, b3⟩, ⟨d1, d2⟩, ⟨e1, e2⟩, g, ⟨i1, i2⟩⟩ := h; omega)]
       rw [if_pos c6]
      ·rw [if_neg c6]
       by_cases c7 : x.f3 > 9007199254740992
       ·rw [decide_eq_false (p := validP x) (fun h => by obtain ⟨⟨a1, a2⟩, ⟨b1, b2, b3⟩, ⟨d1, d2⟩, ⟨e1, e2⟩, g, ⟨i1, i2⟩⟩ := h; omega)]
        rw [if_pos c7]
       ·rw [if_neg c7]
        by_cases c8 : x.f4 < -9007199254740992
        ·rw [decide_eq_false (p := validP x) (fun h => by obtain ⟨⟨a1, a2⟩, ⟨b1, b2, b3⟩, ⟨d1, d2⟩, ⟨e1, e2⟩, g, ⟨i1, i2⟩⟩ := h; omega)]
         rw [if_pos c8]
        ·rw [if_neg c8]
         by_cases c9 : x.f4 > 9007199254740992
         ·rw [decide_eq_false (p := validP x) (fun h => by obtain ⟨⟨a1, a2⟩, ⟨b1, b2, b3⟩, ⟨d1, d2⟩, ⟨e1, e2⟩, g, ⟨i1, i2⟩⟩ := h; omega)]
          rw [if_pos c9]
         ·rw [if_neg c9]
          by_cases c10 : (x.f5.size : Int) > 4096
          ·rw [decide_eq_false (p := validP x) (fun h => by obtain ⟨⟨a1, a2⟩, ⟨b1, b2, b3⟩, ⟨d1, d2⟩, ⟨e1, e2⟩, g, ⟨i1, i2⟩⟩ := h; omega)]
           rw [if_neg (by omega)]
          ·rw [if_pos (by omega)]
           by_cases c11 : x.f6 < 0
           ·rw [decide_eq_false (p := validP x) (fun h => by obtain ⟨⟨a1, a2⟩, ⟨b1, b2, b3⟩, ⟨d1, d2⟩, ⟨e1, e2⟩, g, ⟨i1, i2⟩⟩ := h; omega)]
            rw [if_neg (by omega)]
           ·rw [if_pos (by omega)]
            by_cases c12 : x.f6 > 12
            ·rw [decide_eq_false (p := validP x) (fun h => by obtain ⟨⟨a1, a2⟩, ⟨b1, b2, b3⟩, ⟨d1, d2⟩, ⟨e1, e2⟩, g, ⟨i1, i2⟩⟩ := h; omega)]
             rw [decide_eq_false (by omega)]
            ·rw [decide_eq_true (by omega), decide_eq_true (show validP x from ⟨by omega, by omega, by omega, by omega, by omega, by omega⟩)]
theorem refValid_eq (x : EvT) : r07_Valid.f x.f0 x.f1 x.f2 x.f3 x.f4 x.f5 x.f6 = some (decide (validP x)) := by
 unfold r07_Valid.f
 by_cases c1 : x.f0 < 1
 ·rw [decide_eq_false (p := validP x) (fun h => by obtain ⟨⟨a1, a2⟩, ⟨b1, b2, b3⟩, ⟨d1, d2⟩, ⟨e1, e2⟩, g, ⟨i1, i2⟩⟩ := h; omega)]
  rw [if_pos c1]
 ·rw [if_neg c1]
  by_cases c2 : x.f0 > 8
  ·rw [decide_eq_false (p := validP x) (fun h => by obtain ⟨⟨a1, a2⟩, ⟨b1, b2, b3⟩, ⟨d1, d2⟩, ⟨e1, e2⟩, g, ⟨i1, i2⟩⟩ := h; omega)]
   rw [if_pos c2]
  ·rw [if_neg c2]
   by_cases c3 : x.f1 < 0
   ·rw [decide_eq_false (p := validP x) (fun h => by obtain ⟨⟨a1, a2⟩, ⟨b1, b2, b3⟩, ⟨d1, d2⟩, ⟨e1, e2⟩, g, ⟨i1, i2⟩⟩ := h; omega)]
    rw [if_pos c3]
   ·rw [if_neg c3]
    by_cases c4 : x.f1 > x.f2
    ·rw [decide_eq_false (p := validP x) (fun h => by obtain ⟨⟨a1, a2⟩, ⟨b1, b2, b3⟩, ⟨d1, d2⟩, ⟨e1, e2⟩, g, ⟨i1, i2⟩⟩ := h; omega)]
     rw [if_pos c4]
    ·rw [if_neg c4]
     by_cases c5 : x.f2 > 1099511627776
     ·rw [decide_eq_false (p := validP x) (fun h => by obtain ⟨⟨a1, a2⟩, ⟨b1, b2, b3⟩, ⟨d1, d2⟩, ⟨e1, e2⟩, g, ⟨i1, i2⟩⟩ := h; omega)]
      rw [if_pos c5]
     ·rw [if_neg c5]
      by_cases c10 : (x.f5.size : Int) > 4096
      ·rw [decide_eq_false (p := validP x) (fun h => by obtain ⟨⟨a1, a2⟩, ⟨b1, b2, b3⟩, ⟨d1, d2⟩, ⟨e1, e2⟩, g, ⟨i1, i2⟩⟩ := h; omega)]
       rw [if_pos c10]
      ·rw [if_neg c10]
       by_cases c11 : x.f6 < 0
       ·rw [decide_eq_false (p := validP x) (fun h => by obtain ⟨⟨a1, a2⟩, ⟨b1, b2, b3⟩, ⟨d1, d2⟩, ⟨e1, e2⟩, g, ⟨i1, i2⟩⟩ := h; omega)]
        rw [if_pos c11]
       ·rw [if_neg c11]
        by_cases c12 : x.f6 > 12
        ·rw [decide_eq_false (p := validP x) (fun h => by obtain ⟨⟨a1, a2⟩, ⟨b1, b2, b3⟩, ⟨d1, d2⟩, ⟨e1, e2⟩, g, ⟨i1, i2⟩⟩ := h; omega)]
         rw [if_pos c12]
        ·rw [if_neg c12]
         by_cases c6 : x.f3 < -9007199254740992
         ·rw [decide_eq_false (p := validP x) (fun h => by obtain ⟨⟨a1, a2⟩, ⟨b1, b2, b3⟩, ⟨d1, d2⟩, ⟨e1, e2⟩, g, ⟨i1, i2⟩⟩ := h; omega)]
          rw [if_neg (by omega)]
         ·rw [if_pos (by omega)]
          by_cases c7 : x.f3 > 9007199254740992
          ·rw [decide_eq_false (p := validP x) (fun h => by obtain ⟨⟨a1, a2⟩, ⟨b1, b2, b3⟩, ⟨d1, d2⟩, ⟨e1, e2⟩, g, ⟨i1, i2⟩⟩ := h; omega)]
           rw [if_neg (by omega)]
          ·rw [if_pos (by omega)]
           by_cases c8 : x.f4 < -9007199254740992
           ·rw [decide_eq_false (p := validP x) (fun h => by obtain ⟨⟨a1, a2⟩, ⟨b1, b2, b3⟩, ⟨d1, d2⟩, ⟨e1, e2⟩, g, ⟨i1, i2⟩⟩ := h; omega)]
            rw [if_neg (by omega)]
           ·rw [if_pos (by omega)]
            by_cases c9 : x.f4 > 9007199254740992
            ·rw [decide_eq_false (p := validP x) (fun h => by obtain ⟨⟨a1, a2⟩, ⟨b1, b2, b3⟩, ⟨d1, d2⟩, ⟨e1, e2⟩, g, ⟨i1, i2⟩⟩ := h; omega)]
             rw [decide_eq_false (by omega)]
            ·rw [decide_eq_true (by omega), decide_eq_true (show validP x from ⟨by omega, by omega, by omega, by omega, by omega, by omega⟩)]
theorem acc_tail (s : StT) (x : EvT) : (if decide (validP x) = true then (if x.f0 = 1 then (if x.f6 = 0 then (if x.f1 ≥ x.f2 then (some false) else (if x.f3 < 0 then (some false) else (if x.f3 > 3 then (some false) else (if s.f0 = 0 then (some true) else (some (x.f1 == s.f1)))))) else (some false)) else (some false)) else (some false)) = some (decide (accP s x)) := by
 by_cases hv : validP x
 ·rw [if_pos (decide_eq_true hv)]
  by_cases h1 : x.f0 = 1
  ·rw [if_pos h1]
   by_cases h2 : x.f6 = 0
   ·rw [if_pos h2]
    by_cases h3 : x.f1 ≥ x.f2
    ·rw [if_pos h3, decide_eq_false (fun h => by have := h.2.2.2.1; omega)]
    ·rw [if_neg h3]
     by_cases h4 : x.f3 < 0
     ·rw [if_pos h4, decide_eq_false (fun h => by have := h.2.2.2.2.1; omega)]
     ·rw [if_neg h4]
      by_cases h5 : x.f3 > 3
      ·rw [if_pos h5, decide_eq_false (fun h => by have := h.2.2.2.2.1; omega)]
      ·rw [if_neg h5]
       by_cases h6 : s.f0 = 0
       ·rw [if_pos h6, decide_eq_true (show accP s x from ⟨hv, h1, h2, by omega, by omega, .inl h6⟩)]
       ·rw [if_neg h6]
        by_cases h7 : x.f1 = s.f1
        ·rw [decide_eq_true (show accP s x from ⟨hv, h1, h2, by omega, by omega, .inr h7⟩), beq_iff_eq.mpr h7]
        ·rw [decide_eq_false (fun h : accP s x => by have := h.2.2.2.2.2; omega), beq_eq_false_iff_ne.mpr h7]
   ·rw [if_neg h2, decide_eq_false (fun h => h2 h.2.2.1)]
  ·rw [if_neg h1, decide_eq_false (fun h => h1 h.2.1)]
 ·rw [if_neg (by simp [hv]), decide_eq_false (fun h => hv h.1)]
theorem accepted_eq (k : Nat) (s : StT) (x : EvT) : i2c_accepted.f (k + 2) s.f0 s.f1 s.f2 s.f3 s.f4 s.f5 s.f6 s.f7 x.f0 x.f1 x.f2 x.f3 x.f4 x.f5 x.f6 = some (decide (accP s x)) := by
 unfold i2c_accepted.f
 rw [evValid_eq, Option.bind_some]
 exact acc_tail s x
theorem accepts_eq (s : StT) (x : EvT) : r23_accepts.f s.f0 s.f1 s.f2 s.f3 s.f4 s.f5 s.f6 s.f7 x.f0 x.f1 x.f2 x.f3 x.f4 x.f5 x.f6 = some (decide (accP s x)) := by
 unfold r23_accepts.f
 rw [refValid_eq, Option.bind_some]
 exact acc_tail s x
theorem four {a : Int} (h : 0 ≤ a ∧ a ≤ 3) : a = 0 ∨ a = 1 ∨ a = 2 ∨ a = 3 := by omega
theorem change_eq (k : Nat) {a b : Int} (ha : 0 ≤ a ∧ a ≤ 3) (hb : 0 ≤ b ∧ b ≤ 3) : i2c_change.f (k + 2) a b = some (chgV a b) := by
 rcases four ha with rfl | rfl | rfl | rfl <;> rcases four hb with rfl | rfl | rfl | rfl <;> rfl
def SegI (s : StT) : Prop := (0 ≤ s.f3 ∧ s.f3 ≤ 8) ∧ (0 ≤ s.f4 ∧ s.f4 < 2 ^ s.f3.toNat) ∧ (0 ≤ s.f5 ∧ s.f5 ≤ 7) ∧ s.f7.size ≤ 4097
def Inv (s : StT) : Prop := (0 ≤ s.f6 ∧ s.f6 ≤ 3) ∧ (s.f0 = 2 → SegI s)
theorem pow8 {n : Int} (h : 0 ≤ n ∧ n ≤ 8) {a : Int} (ha : a < 2 ^ n.toNat) : a ≤ 255 := by
 have h1 : n.toNat ≤ 8 := by omega
 have h2 : (2 : Nat) ^ n.toNat ≤ 2 ^ 8 := Nat.pow_le_pow_right (by decide) h1
 have h3 : ((2 : Int) ^ n.toNat) = ((2 ^ n.toNat : Nat) : Int) := by push_cast; rfl
 omega
theorem auxV_bound {a v : Int} (d : Nat) (h : 0 ≤ a ∧ a ≤ 7) : 0 ≤ auxV a v d ∧ auxV a v d ≤ 7 := by
 unfold auxV
 split <;> split <;> split <;> omega
theorem bitV_segI {s : StT} (h : SegI s) {v : Int} (hv : v = 0 ∨ v = 1) : SegI (bitV s v) := by
 obtain ⟨h3, h4, h5, h7⟩ := h
 unfold bitV
 by_cases c : s.f3 < 8
 ·rw [if_pos c]
  refine ⟨⟨by show 0 ≤ s.f3 + 1; omega, by show s.f3 + 1 ≤ 8; omega⟩, ⟨by show 0 ≤ 2 * s.f4 + v; omega, ?_⟩, h5, h7⟩
  show 2 * s.f4 + v < 2 ^ (s.f3 + 1).toNat
  rw [show (s.f3 + 1).toNat = s.f3.toNat + 1 by omega, Int.pow_succ]
  omega
 ·rw [if_neg c]
  refine ⟨⟨Int.le_refl 0, (by decide : (0 : Int) ≤ 8)⟩, ⟨Int.le_refl 0, (by decide : (0 : Int) < 2 ^ (0 : Int).toNat)⟩, auxV_bound _ h5, ?_⟩
  show (if s.f7.size ≤ 4096 then s.f7 ++ (⟨#[UInt8.ofNat s.f4.toNat]⟩ : ByteArray) else s.f7).size ≤ 4097
  split
  ·rw [ByteArray.size_append]
   show s.f7.size + 1 ≤ 4097
   omega
  ·exact h7
theorem goV_inv {s : StT} (h : Inv s) {a b v : Int} (hv : 0 ≤ v ∧ v ≤ 3) : Inv (goV s a b v).1 := by
 unfold goV
 by_cases c0 : s.f0 = 0
 ·rw [if_pos c0]
  exact ⟨hv, fun h => absurd h (by decide : ¬ (1 : Int) = 2)⟩
 ·rw [if_neg c0]
  by_cases c1 : chgV s.f6 v = 1
  ·rw [if_pos c1]
   exact ⟨hv, fun _ => ⟨⟨Int.le_refl 0, (by decide : (0 : Int) ≤ 8)⟩, ⟨Int.le_refl 0, (by decide : (0 : Int) < 2 ^ (0 : Int).toNat)⟩, ⟨Int.le_refl 0, (by decide : (0 : Int) ≤ 7)⟩, (by decide : (0 : Nat) ≤ 4097)⟩⟩
  ·rw [if_neg c1]
   by_cases c2 : chgV s.f6 v = 2
   ·rw [if_pos c2]
    exact ⟨hv, fun h => absurd h (by decide : ¬ (1 : Int) = 2)⟩
   ·rw [if_neg c2]
    by_cases c3 : chgV s.f6 v = 3 ∧ s.f0 = 2
    ·rw [if_pos c3]
     have hs : SegI ⟨s.f0, b, s.f2, s.f3, s.f4, s.f5, v, s.f7⟩ := h.2 c3.2
     obtain ⟨e1, e2, e3⟩ := bitV_prev ⟨s.f0, b, s.f2, s.f3, s.f4, s.f5, v, s.f7⟩ (v / 2)
     exact ⟨by rw [e1]; exact hv, fun _ => bitV_segI hs (by omega)⟩
    ·rw [if_neg c3]
     exact ⟨hv, h.2⟩
theorem eight {a : Int} (h : 0 ≤ a ∧ a ≤ 7) : a = 0 ∨ a = 1 ∨ a = 2 ∨ a = 3 ∨ a = 4 ∨ a = 5 ∨ a = 6 ∨ a = 7 := by omega
def tp (s : StT) : TupT := (s.f0, s.f1, s.f2, s.f3, s.f4, s.f5, s.f6, s.f7)
theorem bit_eq (k : Nat) {s : StT} (h : SegI s) {v : Int} (hv : v = 0 ∨ v = 1) : i2c_bit.f (k + 1) s.f0 s.f1 s.f2 s.f3 s.f4 s.f5 s.f6 s.f7 v = some (tp (bitV s v)) := by
 have hp := pow8 h.1 h.2.1.2
 obtain ⟨h3, h4, h5, h7⟩ := h
 unfold i2c_bit.f bitV tp
 rw [w64 (x := s.f3 + 1) (by omega) (by omega)]
 by_cases c : s.f3 < 8
 ·rw [if_pos (by omega), if_pos c, w64 (x := 2 * s.f4) (by omega) (by omega), w64 (by omega) (by omega)]
 ·have e8 : s.f3 = 8 := by omega
  have e4 : s.f4 % 256 = s.f4 := by omega
  have es : strOfNums [s.f4] = ⟨#[UInt8.ofNat s.f4.toNat]⟩ := rfl
  rw [if_neg (by omega), if_neg c]
  simp only [i2c_bit.j0, Option.bind_some, e4, es]
  have hz : s.f7.size ≤ 4096 → s.f7.size + (⟨#[UInt8.ofNat s.f4.toNat]⟩ : ByteArray).size ≤ 9223372036854775807 := fun hh => by
   show s.f7.size + 1 ≤ _
   omega
  by_cases cs : s.f7.size ≤ 4096
  ·have cs' : (s.f7.size : Int) ≤ 4096 := by omega
   have hz' := hz cs
   simp only [cs, cs', hz', if_true, auxV]
   rcases eight h5 with e | e | e | e | e | e | e | e <;> rw [e] <;> rcases hv with rfl | rfl <;> rfl
  ·have cs' : ¬ (s.f7.size : Int) ≤ 4096 := by omega
   simp only [cs, cs', if_false, auxV]
   rcases eight h5 with e | e | e | e | e | e | e | e <;> rw [e] <;> rcases hv with rfl | rfl <;> rfl
theorem toList_nil (d : ByteArray) : d.toList = ([] : List UInt8) ↔ d.size = 0 := (toList_eq d).2.1
theorem bt_get (d : ByteArray) (h : 0 < d.size) : bt d 0 = ((d.get! 0).toNat : Int) := by
 unfold bt
 rw [dif_pos (show (0 : Int).toNat < d.size from h)]
 have : (d.get! 0) = d[(0 : Int).toNat]'h := by
  show d.data[0]! = d.data[0]'h
  exact getElem!_pos d.data 0 h
 rw [this]
theorem u8_and1 {a : Int} (h : 0 ≤ a ∧ a ≤ 255) : Go.bits .and .u8 a 1 = a % 2 := by
 rw [u8_and a 1 h.1 (by omega) (by decide) (by decide), show (1 : Int).toNat = 1 from rfl, nat_mask1]
 omega
theorem fault_eq (k : Nat) {s : StT} (h : 0 ≤ s.f5 ∧ s.f5 ≤ 7) : i2c_fault.f (k + 1) s.f0 s.f1 s.f2 s.f3 s.f4 s.f5 s.f6 s.f7 = some (fltV s) := by
 have key : ∀ b : Bool, (b = true ↔ (0 < s.f7.size ∧ (s.f7.get! 0).toNat % 2 = 1)) → i2c_fault.j0 (k + 1) b s.f0 s.f1 s.f2 s.f3 s.f4 s.f5 s.f6 s.f7 = some (fltV s) := by
  intro b hb
  simp only [i2c_fault.j0]
  unfold fltV
  have e1 : ¬ ((s.f7.size : Int) > 1) ↔ ¬ (s.f7.size > 1) := by omega
  by_cases c3 : s.f3 > 1
  ·simp only [if_pos c3]
   rcases eight h with e | e | e | e | e | e | e | e <;> rw [e] <;> rfl
  ·simp only [if_neg c3]
   by_cases c7 : s.f7.size > 1
   ·have c7' : (s.f7.size : Int) > 1 := by omega
    have c0 : 0 < s.f7.size := by omega
    simp only [if_pos c7', c7, c0, true_and] at hb ⊢
    by_cases cb : (s.f7.get! 0).toNat % 2 = 1
    ·simp only [hb.mpr cb, cb, if_true, not_true_eq_false, and_false, if_false]
     rcases eight h with e | e | e | e | e | e | e | e <;> rw [e] <;> rfl
    ·have : b = false := by cases b with | false => rfl | true => exact absurd (hb.mp rfl) cb
     simp only [this, cb, not_false_eq_true, and_true]
     rcases eight h with e | e | e | e | e | e | e | e <;> rw [e] <;> rfl
   ·have c7' : ¬ (s.f7.size : Int) > 1 := by omega
    simp only [if_neg c7', c7, false_and, not_false_eq_true, and_true, ite_self]
    rcases eight h with e | e | e | e | e | e | e | e <;> rw [e] <;> rfl
 unfold i2c_fault.f
 by_cases c : s.f7.size = 0
 ·rw [if_pos ((toList_nil _).mpr c)]
  exact key false ⟨fun hh => absurd hh (by decide), fun hh => by omega⟩
 ·rw [if_neg (fun hh => c ((toList_nil _).mp hh)), if_pos (by omega)]
  refine key _ ?_
  rw [u8_and1 (bt_range _ _), bt_get _ (by omega)]
  simp only [beq_iff_eq]
  omega
def etup (x : EvT) : Int × Int × Int × Int × Int × ByteArray × Int := (x.f0, x.f1, x.f2, x.f3, x.f4, x.f5, x.f6)
theorem frame_eq (k : Nat) {s : StT} (h : 0 ≤ s.f5 ∧ s.f5 ≤ 7) (en stop : Int) : i2c_frame.f (k + 1) s.f0 s.f1 s.f2 s.f3 s.f4 s.f5 s.f6 s.f7 en stop = some (etup (frmV s en stop)) := by
 unfold i2c_frame.f frmV etup
 rw [fault_eq k h, Option.bind_some]
 by_cases c : s.f7.size = 0
 ·have e : s.f7 = ⟨#[]⟩ := by
   apply ByteArray.ext
   exact Array.toList_inj.mp (List.length_eq_zero_iff.mp c)
  rw [if_pos ((toList_nil _).mpr c), if_pos c, e]
  rfl
 ·have hb := (s.f7.get! 0).toNat_lt
  rw [if_neg (fun hh => c ((toList_nil _).mp hh)), if_pos (by omega), if_pos (by omega), if_neg c, bt_get _ (by omega), w64 (by omega) (by omega)]
theorem step_ev {c : Int} {s : StT} (hs : Inv s) (x : EvT) : ∀ k, i2c_Step.f (k + 5) c s.f0 s.f1 s.f2 s.f3 s.f4 s.f5 s.f6 s.f7 x.f0 x.f1 x.f2 x.f3 x.f4 x.f5 x.f6 = some (pk (stepV c s x).1 (stepV c s x).2) := by
 intro k
 unfold i2c_Step.f
 rw [(check_eq c).1, Option.bind_some]
 by_cases hc : okC c
 ·rw [check_ok hc, if_pos rfl, accepted_eq, Option.bind_some]
  unfold stepV
  by_cases ha : accP s x
  ·rw [if_pos ⟨hc, ha⟩]
   have hd : (!decide (accP s x)) = false := by simp [ha]
   rw [hd]
   simp only [i2c_Step.j0, if_neg Bool.false_ne_true]
   obtain ⟨hv, h1, h6, h12, h3, h0⟩ := ha
   unfold goV pk
   by_cases c0 : s.f0 = 0
   ·simp only [if_pos c0]
   ·simp only [if_neg c0]
    rw [change_eq (k + 2) hs.1 h3, Option.bind_some]
    have hfr : ∀ stop, s.f0 = 2 → i2c_frame.f (k + 3) s.f0 x.f2 s.f2 s.f3 s.f4 s.f5 x.f3 s.f7 x.f1 stop = some (etup (frmV s x.f1 stop)) := fun stop h2 => frame_eq (k + 2) (s := ⟨s.f0, x.f2, s.f2, s.f3, s.f4, s.f5, x.f3, s.f7⟩) (hs.2 h2).2.2.1 x.f1 stop
    by_cases c1 : chgV s.f6 x.f3 = 1
    ·simp only [if_pos c1, i2c_Step.j1]
     by_cases c2 : s.f0 = 2
     ·simp only [if_pos c2]
      rw [hfr 0 c2, Option.bind_some]
      rfl
     ·simp only [if_neg c2]
    ·simp only [if_neg c1]
     by_cases c1' : chgV s.f6 x.f3 = 2
     ·simp only [if_pos c1', i2c_Step.j1]
      by_cases c2 : s.f0 = 2
      ·simp only [if_pos c2]
       rw [hfr 1 c2, Option.bind_some]
       rfl
      ·simp only [if_neg c2]
     ·simp only [if_neg c1']
      by_cases c3 : chgV s.f6 x.f3 = 3
      ·by_cases c2 : s.f0 = 2
       ·simp only [if_pos c3, if_pos c2, if_pos (And.intro c3 c2)]
        have eb : Go.bits .and .i64 (x.f3 / 2) 1 = x.f3 / 2 := by
         rcases four h3 with e | e | e | e <;> rw [e] <;> rfl
        have hb := bit_eq (k + 3) (s := ⟨s.f0, x.f2, s.f2, s.f3, s.f4, s.f5, x.f3, s.f7⟩) (hs.2 c2) (v := x.f3 / 2) (by omega)
        rw [eb]
        rw [hb, Option.bind_some]
        rfl
       ·simp only [if_pos c3, if_neg c2, if_neg (fun h : chgV s.f6 x.f3 = 3 ∧ s.f0 = 2 => c2 h.2)]
      ·simp only [if_neg c3, if_neg (fun h : chgV s.f6 x.f3 = 3 ∧ s.f0 = 2 => c3 h.1)]
  ·rw [if_neg (fun h => ha h.2)]
   have hd : (!decide (accP s x)) = true := by simp [ha]
   rw [hd]
   rfl
 ·rw [check_no hc, if_neg (by decide)]
  unfold stepV
  rw [if_neg (fun h => hc h.1)]
  rfl
theorem ev_step {α : Type} {g f : Nat → Option α} {r : α} (n : Nat) (h : ∀ k, n ≤ k → g (k + 1) = f k) (hf : Ev f r) : Ev g r := by
 obtain ⟨K, hK⟩ := hf
 refine ⟨max K n + 1, fun k hk => ?_⟩
 have e : k = (k - 1) + 1 := by omega
 rw [e, h _ (by omega)]
 exact hK _ (by omega)
theorem ev_same {α : Type} {g f : Nat → Option α} {r : α} (n : Nat) (h : ∀ k, n ≤ k → g k = f k) (hf : Ev f r) : Ev g r := by
 obtain ⟨K, hK⟩ := hf
 exact ⟨max K n, fun k hk => by rw [h _ (by omega)]; exact hK _ (by omega)⟩
theorem step_at {c : Int} {s : StT} (hs : Inv s) (x : EvT) {k : Nat} (hk : 5 ≤ k) : i2c_Step.f k c s.f0 s.f1 s.f2 s.f3 s.f4 s.f5 s.f6 s.f7 x.f0 x.f1 x.f2 x.f3 x.f4 x.f5 x.f6 = some (pk (stepV c s x).1 (stepV c s x).2) := by
 have h := step_ev (c := c) hs x (k - 5)
 rwa [show k - 5 + 5 = k by omega] at h
theorem rdE_mid (pre post : List EvT) (x : EvT) : rd_T27 (pre ++ x :: post) (pre.length : Int) = x := by simp [rd_T27, List.getD]
theorem midl_lt {α : Type} (pre post : List α) (x : α) : (pre.length : Int) < ((pre ++ x :: post).length : Int) := by
 simp only [List.length_append, List.length_cons]
 omega
def runV (c : Int) : StT → List EvT → StT × List EvT
 | s, [] => (s, [])
 | s, x :: l => ((runV c (stepV c s x).1 l).1, (stepV c s x).2 ++ (runV c (stepV c s x).1 l).2)
def endV (c : Int) (s : StT) : List EvT := if okC c ∧ s.f0 = 2 then [⟨5, s.f2, s.f1, 0, 0, ⟨#[]⟩, 7⟩] else []
def z0 : StT := ⟨0, 0, 0, 0, 0, 0, 0, ⟨#[]⟩⟩
def decV (c : Int) (l : List EvT) : List EvT := (runV c z0 l).2 ++ endV c (runV c z0 l).1
theorem goV_len (s : StT) (a b v : Int) : (goV s a b v).2.length ≤ 1 := by
 unfold goV
 repeat' split
 all_goals simp
theorem stepV_len (c : Int) (s : StT) (x : EvT) : (stepV c s x).2.length ≤ 1 := by
 unfold stepV
 split
 ·exact goV_len ..
 ·exact Nat.zero_le _
theorem stepV_inv {c : Int} {s : StT} (h : Inv s) (x : EvT) : Inv (stepV c s x).1 := by
 unfold stepV
 split
 ·rename_i ha
  exact goV_inv h ha.2.2.2.2.2.1
 ·exact h
theorem runV_len {c : Int} : ∀ (l : List EvT) (s : StT), (runV c s l).2.length ≤ l.length
 | [], s => Nat.le_refl _
 | x :: l, s => by
  have h1 := stepV_len c s x
  have h2 := runV_len (c := c) l (stepV c s x).1
  simp only [runV, List.length_append, List.length_cons]
  omega
theorem endV_len (c : Int) (s : StT) : (endV c s).length ≤ 1 := by
 unfold endV
 split
 ·exact Nat.le_refl _
 ·exact Nat.zero_le _
theorem decV_len (c : Int) (l : List EvT) : (decV c l).length ≤ l.length + 1 := by
 have h1 := runV_len (c := c) l z0
 have h2 := endV_len c (runV c z0 l).1
 unfold decV
 rw [List.length_append]
 omega
theorem inv_z0 : Inv z0 := ⟨⟨Int.le_refl 0, (by decide : (0 : Int) ≤ 3)⟩, fun h => absurd h (by decide : ¬ (0 : Int) = 2)⟩
theorem end_eq (c : Int) (s : StT) : i2c_End.f c s.f0 s.f1 s.f2 s.f3 s.f4 s.f5 s.f6 s.f7 = some (endV c s) := by
 unfold i2c_End.f endV
 rw [(check_eq c).1, Option.bind_some]
 by_cases h : okC c
 ·rw [check_ok h, if_pos rfl]
  by_cases h2 : s.f0 = 2
  ·rw [if_pos h2, if_pos ⟨h, h2⟩]
  ·rw [if_neg h2, if_neg (fun hh => h2 hh.2)]
 ·rw [check_no h, if_neg (by decide), if_neg (fun hh => h hh.1)]
theorem dec_l0 {c : Int} : ∀ (post pre out : List EvT) (s : StT), Inv s → out.length + post.length + 1 < 2199023255552 → (pre ++ post).length ≤ 1099511627776 →
  Ev (fun k => i2c_Decode.l0 k out (pre ++ post) ((pre ++ post).length : Int) (pre.length : Int) c s.f0 s.f1 s.f2 s.f3 s.f4 s.f5 s.f6 s.f7) (out ++ ((runV c s post).2 ++ endV c (runV c s post).1))
 | [], pre, out, s, hs, ho, hl => by
  have hz := endV_len c s
  refine Ev.step (f := fun _ => some (out ++ endV c s)) (fun k => ?_) (Ev.now _)
  simp only [i2c_Decode.l0]
  rw [if_neg (by simp), end_eq, Option.bind_some, if_pos (by simp only [List.length_nil] at ho; omega)]
 | x :: post, pre, out, s, hs, ho, hl => by
  have hlt := midl_lt pre post x
  have hn : pre.length ≤ 9223372036854775806 := by
   simp only [List.length_append, List.length_cons] at hl
   omega
  have h1 := stepV_len c s x
  simp only [List.length_cons] at ho
  have ih := dec_l0 (c := c) post (pre ++ [x]) (out ++ (stepV c s x).2) (stepV c s x).1 (stepV_inv hs x) (by rw [List.length_append]; omega) (by simpa using hl)
  rw [← mid_snoc] at ih
  have er : out ++ (stepV c s x).2 ++ ((runV c (stepV c s x).1 post).2 ++ endV c (runV c (stepV c s x).1 post).1) = out ++ ((runV c s (x :: post)).2 ++ endV c (runV c s (x :: post)).1) := by
   simp only [runV, List.append_assoc]
  rw [er] at ih
  refine ev_step 5 (fun k hk => ?_) ih
  simp only [i2c_Decode.l0]
  rw [if_pos hlt, if_pos (by omega), if_pos hlt, rdE_mid, step_at hs x hk, Option.bind_some]
  refine (if_pos (show out.length + (stepV c s x).2.length < 2199023255552 by omega)).trans ?_
  rw [succ_mid _ _ hn]
  rfl
theorem dec_ev (c : Int) {l : List EvT} (hl : l.length ≤ 1099511627776) : Ev (fun k => i2c_Decode.f k c l) (decV c l) := by
 have h := dec_l0 (c := c) l [] [] z0 inv_z0 (by simp only [List.length_nil]; omega) (by simpa using hl)
 exact Ev.congr (fun k => rfl) h
theorem awake23_ev : Ev (fun k => lw_awake.f k) true := Ev.of (k := 100) (fun k => lw_awake.mono k) (by decide +kernel)
theorem awake23_then : Ev (fun k => (lw_awake.f k).bind fun t => some t) true := Ev.bind awake23_ev (Ev.now true)
theorem awk {g : Nat → Option Bool} (n : Nat) (h : ∀ k, n ≤ k → g k = (lw_awake.f k).bind fun t => some t) : Ev g true := ev_same n h awake23_then
theorem same07_l0 : ∀ (post pre : List EvT), (pre ++ post).length ≤ 140737488355328 → Ev (fun k => r07_Same.l0 k (pre ++ post) (pre ++ post) (pre.length : Int)) true
 | [], pre, hl => by
  refine Ev.step (f := fun _ => some true) (fun k => ?_) (Ev.now _)
  simp only [r07_Same.l0]
  rw [if_neg (by simp)]
 | x :: post, pre, hl => by
  have hlt := midl_lt pre post x
  have hn : pre.length ≤ 9223372036854775806 := by
   simp only [List.length_append, List.length_cons] at hl
   omega
  have ih := same07_l0 post (pre ++ [x]) (by simpa using hl)
  rw [← mid_snoc pre post x] at ih
  refine Ev.step (fun k => ?_) ih
  simp only [r07_Same.l0]
  rw [if_pos hlt, if_pos (by omega), if_pos hlt, if_neg (by simp), succ_mid pre x hn]
theorem same07_ev {l : List EvT} (hl : l.length ≤ 140737488355328) : Ev (fun k => r07_Same.f k l l) true := by
 have h := same07_l0 l [] (by simpa using hl)
 refine Ev.congr (fun k => ?_) h
 unfold r07_Same.f
 rw [if_pos rfl]
 rfl
def bitL (B : List Int) : Prop := ∀ v ∈ B, v = 0 ∨ v = 1
def strB (B : List Int) : ByteArray := ⟨(B.map (fun v => UInt8.ofNat (48 + v.toNat))).toArray⟩
def valB : Int → List Int → Int
 | a, [] => a
 | a, v :: l => valB (2 * a + v) l
def foldB (s : StT) (B : List Int) : StT := B.foldl bitV s
theorem foldB_append (s : StT) (p q : List Int) : foldB s (p ++ q) = foldB (foldB s p) q := List.foldl_append ..
def k0 : StT := ⟨2, 0, 0, 0, 0, 0, 0, ⟨#[]⟩⟩
theorem strB_size (B : List Int) : (strB B).size = B.length := by
 show (B.map _).toArray.size = _
 simp
theorem strB_append (p q : List Int) : strB (p ++ q) = strB p ++ strB q := by
 apply ByteArray.ext
 rw [ByteArray.data_append]
 show ((p ++ q).map _).toArray = (p.map _).toArray ++ (q.map _).toArray
 rw [List.map_append]
 simp
theorem bt_strB (p q : List Int) {v : Int} (hv : v = 0 ∨ v = 1) : bt (strB (p ++ v :: q)) (p.length : Int) = 48 + v := by
 have hs : ((p.length : Int)).toNat < (strB (p ++ v :: q)).size := by
  rw [strB_size, Int.toNat_natCast]
  simp
 unfold bt
 rw [dif_pos hs]
 have e : (strB (p ++ v :: q))[((p.length : Int)).toNat]'hs = UInt8.ofNat (48 + v.toNat) := by
  show ((p ++ v :: q).map (fun v => UInt8.ofNat (48 + v.toNat))).toArray[((p.length : Int)).toNat]'_ = _
  simp
 rw [e]
 rcases hv with rfl | rfl <;> rfl
theorem valB_bound : ∀ (l : List Int) (a : Int) (n : Nat), bitL l → 0 ≤ a → a < 2 ^ n → 0 ≤ valB a l ∧ valB a l < 2 ^ (n + l.length)
 | [], a, n, h, h0, h1 => ⟨h0, h1⟩
 | v :: l, a, n, h, h0, h1 => by
  have hv := h v (.head _)
  have hp : (2 : Int) ^ (n + 1) = 2 * 2 ^ n := by rw [Int.pow_succ]; omega
  have := valB_bound l (2 * a + v) (n + 1) (fun x hx => h x (.tail _ hx)) (by omega) (by rw [hp]; omega)
  rw [show n + (v :: l).length = n + 1 + l.length by simp only [List.length_cons]; omega]
  exact this
theorem octet_l0 (e_ : Int) : ∀ (q p r : List Int) (k : Nat) (a : Int), bitL q → (p.length : Int) + q.length = e_ + 8 → 0 ≤ a → a < 2 ^ (8 - q.length) → q.length ≤ 8 → (p ++ (q ++ r)).length ≤ 9223372036854775800 → -9223372036854775808 ≤ e_ → e_ ≤ 9223372036854775790 →
  r23_octet.l0 (k + q.length + 1) (strB (p ++ (q ++ r))) e_ a (p.length : Int) = some (valB a q)
 | [], p, r, k, a, hq, hp, h0, h1, h8, hl, he, he2 => by
  simp only [List.length_nil] at hp
  simp only [r23_octet.l0]
  rw [w64 (x := e_ + 8) (by omega) (by omega), if_neg (by omega)]
  rfl
 | v :: q, p, r, k, a, hq, hp, h0, h1, h8, hl, he, he2 => by
  simp only [List.length_cons] at hp h8 h1
  have hv := hq v (.head _)
  have hx : (p ++ (v :: q ++ r)).length = p.length + (q.length + 1) + r.length := by simp only [List.length_append, List.length_cons]; omega
  have h28 : (2 : Int) ^ (8 - (q.length + 1)) ≤ 2 ^ 7 := by
   have : (2 : Nat) ^ (8 - (q.length + 1)) ≤ 2 ^ 7 := Nat.pow_le_pow_right (by decide) (by omega)
   have e : ((2 : Int) ^ (8 - (q.length + 1))) = ((2 ^ (8 - (q.length + 1)) : Nat) : Int) := by push_cast; rfl
   omega
  have hp2 : (2 : Int) ^ (8 - q.length) = 2 * 2 ^ (8 - (q.length + 1)) := by
   rw [show 8 - q.length = (8 - (q.length + 1)) + 1 by omega, Int.pow_succ]
   omega
  have hbt := bt_strB p (q ++ r) hv
  have es : p ++ (v :: q ++ r) = (p ++ [v]) ++ (q ++ r) := by simp
  have ih := octet_l0 e_ q (p ++ [v]) r k (2 * a + v) (fun x hx => hq x (.tail _ hx)) (by simp only [List.length_append, List.length_cons, List.length_nil]; omega) (by omega) (by rw [hp2]; omega) (by omega) (by rw [← es]; exact hl) he he2
  rw [← es] at ih
  rw [show k + (v :: q).length + 1 = (k + q.length + 1) + 1 by simp only [List.length_cons]; omega]
  rw [r23_octet.l0]
  rw [w64 (x := e_ + 8) (by omega) (by omega), if_pos (by omega), if_pos (by omega), strB_size, if_pos (by omega)]
  have hbt' : bt (strB (p ++ (v :: q ++ r))) (p.length : Int) = 48 + v := hbt
  rw [hbt', w64 (x := 48 + v) (by omega) (by omega), w64 (x := 2 * a) (by omega) (by omega), w64 (x := 2 * a + (48 + v)) (by omega) (by omega), w64 (x := 2 * a + (48 + v) - 48) (by omega) (by omega), w64 (x := (p.length : Int) + 1) (by omega) (by omega)]
  rw [show 2 * a + (48 + v) - 48 = 2 * a + v by omega, show (p.length : Int) + 1 = ((p ++ [v]).length : Int) by simp]
  exact ih
theorem fold_bits : ∀ (o : List Int) (s : StT), s.f3 + o.length ≤ 8 → foldB s o = ⟨s.f0, s.f1, s.f2, s.f3 + o.length, valB s.f4 o, s.f5, s.f6, s.f7⟩
 | [], s, h => by simp [foldB, valB]
 | v :: o, s, h => by
  simp only [List.length_cons] at h
  have e : bitV s v = ⟨s.f0, s.f1, s.f2, s.f3 + 1, 2 * s.f4 + v, s.f5, s.f6, s.f7⟩ := by
   unfold bitV
   rw [if_pos (by omega)]
  show foldB (bitV s v) o = _
  rw [e, fold_bits o _ (by show s.f3 + 1 + (o.length : Int) ≤ 8; omega)]
  simp only [List.length_cons, valB]
  rw [show s.f3 + 1 + (o.length : Int) = s.f3 + ((o.length + 1 : Nat) : Int) by push_cast; omega]
theorem fold_group {s : StT} {o : List Int} {a : Int} (h3 : s.f3 = 0) (h4 : s.f4 = 0) (ho : o.length = 8) : foldB s (o ++ [a]) = ⟨s.f0, s.f1, s.f2, 0, 0, auxV s.f5 a s.f7.size, s.f6, if s.f7.size ≤ 4096 then s.f7 ++ (⟨#[UInt8.ofNat (valB 0 o).toNat]⟩ : ByteArray) else s.f7⟩ := by
 rw [foldB_append, fold_bits o s (by omega), h3, h4, ho]
 have e : ∀ s : StT, foldB s [a] = bitV s a := fun _ => rfl
 rw [e]
 unfold bitV
 rw [if_neg (show ¬ ((0 : Int) + ((8 : Nat) : Int) < 8) by decide)]
theorem aux_n (a v : Int) (d : Nat) : auxV a v d % 2 = 1 ↔ a / 2 % 2 = 1 ∨ a % 2 = 1 := by
 unfold auxV
 split <;> split <;> split <;> omega
theorem aux_l (a v : Int) (d : Nat) : auxV a v d / 2 % 2 = 1 ↔ v ≠ 0 := by
 unfold auxV
 split <;> split <;> split <;> omega
theorem aux_g (a v : Int) (d : Nat) : auxV a v d / 4 % 2 = 1 ↔ (d ≤ 4096 → a / 4 % 2 = 1) := by
 unfold auxV
 split <;> split <;> split <;> omega
structure SegJ (G i : Nat) (st : StT) (val : Int) (xs : List Int) (nk : Bool) : Prop where
 h3 : st.f3 = 0
 h4 : st.f4 = 0
 zero : i = 0 → val = -1 ∧ xs = [] ∧ nk = false ∧ st.f5 = 0 ∧ st.f7 = ⟨#[]⟩
 more : 0 < i → (0 ≤ val ∧ val ≤ 255) ∧ st.f7 = (⟨#[UInt8.ofNat val.toNat]⟩ : ByteArray) ++ strOfNums xs ∧ xs.length = min (i - 1) 4096
 long : st.f5 / 4 % 2 = 1 ↔ 4097 < i
 nack : i < G → (nk = true ↔ st.f5 % 2 = 1 ∨ st.f5 / 2 % 2 = 1)
 last : i = G → (nk = true ↔ st.f5 % 2 = 1 ∨ (st.f5 / 2 % 2 = 1 ∧ ¬ (1 < G ∧ val % 2 = 1)))
theorem nums_size (xs : List Int) : (strOfNums xs).size = xs.length := by
 show (xs.map _).toArray.size = _
 simp
theorem nums_snoc (xs : List Int) (v : Int) : strOfNums (xs ++ [v]) = strOfNums xs ++ (⟨#[UInt8.ofNat v.toNat]⟩ : ByteArray) := by
 apply ByteArray.ext
 rw [ByteArray.data_append]
 show ((xs ++ [v]).map _).toArray = (xs.map _).toArray ++ _
 rw [List.map_append]
 simp
/-- One group more. -/
theorem segJ_step {G i : Nat} {st : StT} {val : Int} {xs : List Int} {nk : Bool} (J : SegJ G i st val xs nk) (hi : i < G) {o : List Int} {a : Int} (ho : o.length = 8) (hv : 0 ≤ valB 0 o ∧ valB 0 o ≤ 255) (ha : a = 0 ∨ a = 1) :
  SegJ G (i + 1) (foldB st (o ++ [a])) (if i = 0 then valB 0 o else val) (if i = 0 then xs else if xs.length < 4096 then xs ++ [valB 0 o] else xs) (if a = 1 ∧ ¬ (0 < i ∧ i + 1 = G ∧ val % 2 = 1) then true else nk) := by
 rw [fold_group J.h3 J.h4 ho]
 have hsz : 0 < i → st.f7.size = 1 + xs.length := fun h => by
  rw [(J.more h).2.1, ByteArray.size_append, nums_size]
  rfl
 have hsz0 : i = 0 → st.f7.size = 0 := fun h => by
  rw [(J.zero h).2.2.2.2]
  rfl
 refine ⟨rfl, rfl, fun h => absurd h (by omega), fun _ => ?_, ?_, fun h => ?_, fun h => ?_⟩
 ·by_cases c0 : i = 0
  ·obtain ⟨z1, z2, z3, z4, z5⟩ := J.zero c0
   rw [if_pos c0, if_pos c0]
   refine ⟨hv, ?_, by rw [z2, c0]; rfl⟩
   show (if st.f7.size ≤ 4096 then st.f7 ++ (⟨#[UInt8.ofNat (valB 0 o).toNat]⟩ : ByteArray) else st.f7) = _
   rw [if_pos (by have := hsz0 c0; omega), z5, z2, e_app]
   exact (app_e _).symm
  ·obtain ⟨m1, m2, m3⟩ := J.more (by omega)
   have hs := hsz (by omega)
   rw [if_neg c0, if_neg c0]
   refine ⟨m1, ?_, ?_⟩
   ·show (if st.f7.size ≤ 4096 then st.f7 ++ (⟨#[UInt8.ofNat (valB 0 o).toNat]⟩ : ByteArray) else st.f7) = _
    by_cases c1 : xs.length < 4096
    ·rw [if_pos (by omega), if_pos c1, nums_snoc, m2, ByteArray.append_assoc]
    ·rw [if_neg (by omega), if_neg c1, m2]
   ·by_cases c1 : xs.length < 4096
    ·rw [if_pos c1, List.length_append, List.length_cons, List.length_nil]
     omega
    ·rw [if_neg c1]
     omega
 ·show auxV st.f5 a st.f7.size / 4 % 2 = 1 ↔ _
  rw [aux_g, J.long]
  by_cases c0 : i = 0
  ·have := hsz0 c0
   omega
  ·have hs := hsz (by omega)
   have m3 := (J.more (by omega)).2.2
   omega
 ·show _ ↔ auxV st.f5 a st.f7.size % 2 = 1 ∨ auxV st.f5 a st.f7.size / 2 % 2 = 1
  rw [aux_n, aux_l]
  have hn := J.nack hi
  by_cases c1 : a = 1
  ·rw [if_pos ⟨c1, fun hh => by omega⟩]
   exact ⟨fun _ => .inr (by omega), fun _ => rfl⟩
  ·rw [if_neg (fun hh => c1 hh.1), hn]
   omega
 ·show _ ↔ auxV st.f5 a st.f7.size % 2 = 1 ∨ (auxV st.f5 a st.f7.size / 2 % 2 = 1 ∧ _)
  rw [aux_n, aux_l]
  have hn := J.nack hi
  by_cases c0 : i = 0
  ·rw [if_pos c0]
   by_cases c1 : a = 1
   ·rw [if_pos ⟨c1, fun hh => by omega⟩]
    exact ⟨fun _ => .inr ⟨by omega, fun hh => by omega⟩, fun _ => rfl⟩
   ·rw [if_neg (fun hh => c1 hh.1), hn]
    omega
  ·rw [if_neg c0]
   by_cases c1 : a = 1 ∧ ¬ (0 < i ∧ i + 1 = G ∧ val % 2 = 1)
   ·rw [if_pos c1]
    exact ⟨fun _ => .inr ⟨by omega, fun hh => c1.2 ⟨by omega, h, hh.2⟩⟩, fun _ => rfl⟩
   ·rw [if_neg c1, hn]
    omega
theorem oct_at {pre o r : List Int} (hpre : ∀ v ∈ o, v = 0 ∨ v = 1) (ho : o.length = 8) (hl : (pre ++ (o ++ r)).length ≤ 1099511627776) {k : Nat} (hk : 9 ≤ k) : r23_octet.f k (strB (pre ++ (o ++ r))) (pre.length : Int) = some (valB 0 o) ∧ 0 ≤ valB 0 o ∧ valB 0 o ≤ 255 := by
 have hb := valB_bound o 0 0 hpre (Int.le_refl _) (by decide)
 rw [ho] at hb
 have hpl : pre.length ≤ 1099511627776 := by
  rw [List.length_append] at hl
  omega
 refine ⟨?_, hb.1, by have := hb.2; omega⟩
 have h := octet_l0 (pre.length : Int) o pre r (k - 9) 0 hpre (by omega) (Int.le_refl _) (by rw [ho]; decide) (by omega) (by omega) (by omega) (by omega)
 rw [ho, show k - 9 + 8 + 1 = k by omega] at h
 exact h
set_option maxHeartbeats 4000000 in
theorem seg_step {pre o r : List Int} {a : Int} {G i : Nat} {val fr en stop : Int} {xs : List Int} {nk : Bool} (hpre : ∀ v ∈ o, v = 0 ∨ v = 1) (ha : a = 0 ∨ a = 1) (ho : o.length = 8) (hp : pre.length = 9 * i) (hi : i < G) (hG : G ≤ 1099511627776)
  (hl : (pre ++ (o ++ a :: r)).length ≤ 1099511627776) (hval : 0 < i → 0 ≤ val) {k : Nat} (hk : 9 ≤ k) :
  r23_segment.l0 (k + 1) (strB (pre ++ (o ++ a :: r))) (G : Int) xs nk (i : Int) 5 fr en val stop ⟨#[]⟩ 0 =
  r23_segment.l0 k (strB (pre ++ (o ++ a :: r))) (G : Int) (if i = 0 then xs else if xs.length < 4096 then xs ++ [valB 0 o] else xs) (if a = 1 ∧ ¬ (0 < i ∧ i + 1 = G ∧ val % 2 = 1) then true else nk) ((i + 1 : Nat) : Int) 5 fr en (if i = 0 then valB 0 o else val) stop ⟨#[]⟩ 0 := by
 have hiG : (i : Int) < (G : Int) := Int.ofNat_lt.mpr hi
 have i0 : i = 0 → (i : Int) = 0 := fun h => by rw [h]; rfl
 have ip : ¬ i = 0 → (i : Int) > 0 := fun h => Int.ofNat_lt.mpr (Nat.pos_of_ne_zero h)
 have il : (i : Int) = (G : Int) - 1 → i + 1 = G := fun h => by omega
 have ir : i + 1 = G → (i : Int) = (G : Int) - 1 := fun h => by omega
 have x1 : xs.length < 4096 → (xs.length : Int) < 4096 ∧ xs.length < 140737488355328 := fun h => ⟨by omega, by omega⟩
 have x2 : ¬ xs.length < 4096 → ¬ (xs.length : Int) < 4096 := fun h => by omega
 have tv : ¬ i = 0 → Int.tmod val 2 = val % 2 := fun h => Int.tmod_eq_emod_of_nonneg (hval (Nat.pos_of_ne_zero h))
 obtain ⟨oc, o0, o1⟩ := oct_at (pre := pre) (r := a :: r) hpre ho hl hk
 have hL : (pre ++ (o ++ a :: r)).length = pre.length + (8 + (r.length + 1)) := by simp only [List.length_append, List.length_cons, ho]
 have hb := bt_strB (pre ++ o) r ha
 rw [List.append_assoc] at hb
 have hj : ((pre ++ o).length : Int) = (pre.length : Int) + 8 := by rw [List.length_append, ho]; omega
 have e9 : wrap64 (9 * (i : Int)) = (pre.length : Int) := by rw [w64 (by omega) (by omega)]; omega
 have e8 : wrap64 ((pre.length : Int) + 8) = ((pre ++ o).length : Int) := by rw [w64 (by omega) (by omega)]; omega
 have hj0 : 0 ≤ ((pre ++ o).length : Int) := by omega
 have hj1 : ((pre ++ o).length : Int) < ((strB (pre ++ (o ++ a :: r))).size : Int) := by rw [strB_size, hL]; omega
 have eG : wrap64 ((G : Int) - 1) = (G : Int) - 1 := w64 (by omega) (by omega)
 have ei : wrap64 ((i : Int) + 1) = ((i + 1 : Nat) : Int) := by rw [w64 (by omega) (by omega)]; omega
 have hm : valB 0 o % 256 = valB 0 o := by omega
 have ta : (48 + a = 49) ↔ a = 1 := by omega
 rw [r23_segment.l0]
 refine (if_pos hiG).trans ?_
 rw [e9, oc, Option.bind_some, e8, hb, eG, ei]
 by_cases c0 : i = 0
 ·have n0 : ¬ (i : Int) > 0 := fun h => by rw [i0 c0] at h; exact absurd h (by decide)
  refine (if_pos (i0 c0)).trans ((if_neg n0).trans ((if_pos hj0).trans ((if_pos hj1).trans ?_)))
  by_cases c1 : a = 1
  ·refine (if_pos (ta.mpr c1)).trans ?_
   rw [if_pos c0, if_pos c0, if_pos (show a = 1 ∧ ¬ (0 < i ∧ i + 1 = G ∧ val % 2 = 1) from ⟨c1, fun hh => by rw [c0] at hh; exact absurd hh.1 (Nat.lt_irrefl 0)⟩)]
  ·refine (if_neg (fun hh => c1 (ta.mp hh))).trans ?_
   rw [if_pos c0, if_pos c0, if_neg (show ¬ (a = 1 ∧ ¬ (0 < i ∧ i + 1 = G ∧ val % 2 = 1)) from fun hh => c1 hh.1)]
 ·have n0 := ip c0
  have tv := tv c0
  refine (if_neg (Int.ne_of_gt n0)).trans ?_
  have fin : ∀ y : List Int, (if (i : Int) > 0 then (if (i : Int) = (G : Int) - 1 then (if 0 ≤ ((pre ++ o).length : Int) then (if ((pre ++ o).length : Int) < ((strB (pre ++ (o ++ a :: r))).size : Int) then (if 48 + a = 49 then (if ((Int.tmod val 2) = 1) then (r23_segment.l0 k (strB (pre ++ (o ++ a :: r))) (G : Int) y nk ((i + 1 : Nat) : Int) 5 fr en val stop ⟨#[]⟩ 0) else (r23_segment.l0 k (strB (pre ++ (o ++ a :: r))) (G : Int) y true ((i + 1 : Nat) : Int) 5 fr en val stop ⟨#[]⟩ 0)) else (r23_segment.l0 k (strB (pre ++ (o ++ a :: r))) (G : Int) y nk ((i + 1 : Nat) : Int) 5 fr en val stop ⟨#[]⟩ 0)) else (none)) else (none)) else (if 0 ≤ ((pre ++ o).length : Int) then (if ((pre ++ o).length : Int) < ((strB (pre ++ (o ++ a :: r))).size : Int) then (if 48 + a = 49 then (r23_segment.l0 k (strB (pre ++ (o ++ a :: r))) (G : Int) y true ((i + 1 : Nat) : Int) 5 fr en val stop ⟨#[]⟩ 0) else (r23_segment.l0 k (strB (pre ++ (o ++ a :: r))) (G : Int) y nk ((i + 1 : Nat) : Int) 5 fr en val stop ⟨#[]⟩ 0)) else (none)) else (none))) else (if 0 ≤ ((pre ++ o).length : Int) then (if ((pre ++ o).length : Int) < ((strB (pre ++ (o ++ a :: r))).size : Int) then (if 48 + a = 49 then (r23_segment.l0 k (strB (pre ++ (o ++ a :: r))) (G : Int) y true ((i + 1 : Nat) : Int) 5 fr en val stop ⟨#[]⟩ 0) else (r23_segment.l0 k (strB (pre ++ (o ++ a :: r))) (G : Int) y nk ((i + 1 : Nat) : Int) 5 fr en val stop ⟨#[]⟩ 0)) else (none)) else (none))) = r23_segment.l0 k (strB (pre ++ (o ++ a :: r))) (G : Int) y (if a = 1 ∧ ¬ (0 < i ∧ i + 1 = G ∧ val % 2 = 1) then true else nk) ((i + 1 : Nat) : Int) 5 fr en val stop ⟨#[]⟩ 0 := by
   intro y
   refine (if_pos n0).trans ?_
   rw [tv]
   by_cases cl : (i : Int) = (G : Int) - 1
   ·refine (if_pos cl).trans ((if_pos hj0).trans ((if_pos hj1).trans ?_))
    by_cases c1 : a = 1
    ·refine (if_pos (ta.mpr c1)).trans ?_
     by_cases cv : val % 2 = 1
     ·refine (if_pos cv).trans ?_
      rw [if_neg (show ¬ (a = 1 ∧ ¬ (0 < i ∧ i + 1 = G ∧ val % 2 = 1)) from fun hh => hh.2 ⟨Nat.pos_of_ne_zero c0, il cl, cv⟩)]
     ·refine (if_neg cv).trans ?_
      rw [if_pos (show a = 1 ∧ ¬ (0 < i ∧ i + 1 = G ∧ val % 2 = 1) from ⟨c1, fun hh => cv hh.2.2⟩)]
    ·refine (if_neg (fun hh => c1 (ta.mp hh))).trans ?_
     rw [if_neg (show ¬ (a = 1 ∧ ¬ (0 < i ∧ i + 1 = G ∧ val % 2 = 1)) from fun hh => c1 hh.1)]
   ·refine (if_neg cl).trans ((if_pos hj0).trans ((if_pos hj1).trans ?_))
    by_cases c1 : a = 1
    ·refine (if_pos (ta.mpr c1)).trans ?_
     rw [if_pos (show a = 1 ∧ ¬ (0 < i ∧ i + 1 = G ∧ val % 2 = 1) from ⟨c1, fun hh => cl (ir hh.2.1)⟩)]
    ·refine (if_neg (fun hh => c1 (ta.mp hh))).trans ?_
     rw [if_neg (show ¬ (a = 1 ∧ ¬ (0 < i ∧ i + 1 = G ∧ val % 2 = 1)) from fun hh => c1 hh.1)]
  by_cases cx : xs.length < 4096
  ·refine (if_pos (x1 cx).1).trans ((if_pos (x1 cx).2).trans ?_)
   rw [Option.bind_some, hm]
   refine (fin _).trans ?_
   rw [if_neg c0, if_neg c0, if_pos cx]
  ·refine (if_neg (x2 cx)).trans ?_
   refine (fin _).trans ?_
   rw [if_neg c0, if_neg c0, if_neg cx]
theorem seg_end {pre r : List Int} {G : Nat} {st : StT} {val fr en stop : Int} {xs : List Int} {nk : Bool} (J : SegJ G G st val xs nk) (hst : st = foldB k0 pre) (hp : pre.length = 9 * G) (hr : r.length < 9) (hG : G ≤ 1099511627776) (k : Nat) :
  r23_segment.l0 (k + 1) (strB (pre ++ r)) (G : Int) xs nk (G : Int) 5 fr en val stop ⟨#[]⟩ 0 = some (etup (frmV ⟨2, 0, fr, (foldB k0 (pre ++ r)).f3, 0, (foldB k0 (pre ++ r)).f5, 0, (foldB k0 (pre ++ r)).f7⟩ en stop)) := by
 have hf : foldB k0 (pre ++ r) = ⟨st.f0, st.f1, st.f2, st.f3 + r.length, valB st.f4 r, st.f5, st.f6, st.f7⟩ := by
  rw [foldB_append, ← hst]
  exact fold_bits r st (by rw [J.h3]; omega)
 have eG : wrap64 ((G : Int) - 1) = (G : Int) - 1 := w64 (by omega) (by omega)
 have hsz : ((strB (pre ++ r)).size : Int) % 9 = r.length := by
  rw [strB_size, List.length_append, hp]
  omega
 rw [r23_segment.l0]
 refine (if_neg (Int.lt_irrefl _)).trans ?_
 rw [eG, hsz, hf]
 have hl := J.last rfl
 have hlong := J.long
 have key : frmV ⟨2, 0, fr, st.f3 + r.length, 0, st.f5, 0, st.f7⟩ en stop = ⟨5, fr, en, val, stop, strOfNums xs, if (G : Int) - 1 > 4096 then 8 else if (r.length : Int) > 1 then 7 else if nk = true then 10 else 0⟩ := by
  unfold frmV
  have hval : (if st.f7.size = 0 then (-1 : Int) else ((st.f7.get! 0).toNat : Int)) = val ∧ st.f7.extract 1 st.f7.size = strOfNums xs ∧ ((1 < st.f7.size ∧ (st.f7.get! 0).toNat % 2 = 1) ↔ (1 < G ∧ val % 2 = 1)) := by
   by_cases c0 : G = 0
   ·obtain ⟨z1, z2, z3, z4, z5⟩ := J.zero c0
    rw [z5, z1, z2, c0]
    exact ⟨rfl, rfl, ⟨fun hh => absurd hh.1 (by decide), fun hh => absurd hh.1 (by decide)⟩⟩
   ·obtain ⟨m1, m2, m3⟩ := J.more (by omega)
    have hs : st.f7.size = 1 + xs.length := by
     rw [m2, ByteArray.size_append, nums_size]
     rfl
    have hx : ItOk ⟨0, val, 0, strOfNums xs, 0⟩ := ⟨Int.le_refl 0, m1, .inl rfl, by show (strOfNums xs).size ≤ 4096; rw [nums_size]; omega, .inl rfl, fun h => absurd h (by decide : ¬ (0 : Int) = 10)⟩
    obtain ⟨f1, f2, f3⟩ := segV_facts hx
    have e7 : segV (⟨0, val, 0, strOfNums xs, 0⟩ : ItT) = st.f7 := m2.symm
    rw [e7] at f1 f2 f3
    have f2' : (st.f7.get! 0).toNat = val.toNat := f2
    refine ⟨by rw [if_neg (by omega), f2']; omega, f3, ?_⟩
    rw [f2', hs]
    omega
  obtain ⟨v1, v2, v3⟩ := hval
  have eflt : fltV ⟨2, 0, fr, st.f3 + r.length, 0, st.f5, 0, st.f7⟩ = (if (G : Int) - 1 > 4096 then 8 else if (r.length : Int) > 1 then 7 else if nk = true then 10 else 0) := by
   unfold fltV
   dsimp only
   rw [J.h3]
   have v3' : (st.f7.size > 1 ∧ (st.f7.get! 0).toNat % 2 = 1) ↔ (1 < G ∧ val % 2 = 1) := v3
   by_cases c1 : st.f5 / 4 % 2 = 1
   ·rw [if_pos c1, if_pos (by have := hlong.mp c1; omega)]
   ·rw [if_neg c1, if_neg (show ¬ (G : Int) - 1 > 4096 from fun hh => c1 (hlong.mpr (by omega)))]
    by_cases c2 : (r.length : Int) > 1
    ·rw [if_pos (show 0 + (r.length : Int) > 1 by omega), if_pos c2]
    ·rw [if_neg (show ¬ 0 + (r.length : Int) > 1 by omega), if_neg c2]
     by_cases c3 : st.f5 % 2 = 1
     ·rw [if_pos c3, if_pos (hl.mpr (.inl c3))]
     ·rw [if_neg c3]
      by_cases c4 : st.f5 / 2 % 2 = 1 ∧ ¬ (st.f7.size > 1 ∧ (st.f7.get! 0).toNat % 2 = 1)
      ·rw [if_pos c4, if_pos (hl.mpr (.inr ⟨c4.1, fun hh => c4.2 (v3'.mpr hh)⟩))]
      ·rw [if_neg c4, if_neg (fun hh => by
        rcases hl.mp hh with hh | hh
        ·exact c3 hh
        ·exact c4 ⟨hh.1, fun h2 => hh.2 (v3'.mp h2)⟩)]
  rw [eflt]
  dsimp only
  rw [v1, v2]
 show _ = some (etup (frmV ⟨2, 0, fr, st.f3 + r.length, 0, st.f5, 0, st.f7⟩ en stop))
 rw [key]
 unfold etup
 dsimp only
 by_cases c1 : (G : Int) - 1 > 4096
 ·rw [if_pos c1, if_pos c1]
 ·rw [if_neg c1, if_neg c1]
  by_cases c2 : (r.length : Int) > 1
  ·rw [if_pos c2, if_pos c2]
  ·rw [if_neg c2, if_neg c2]
   by_cases c3 : nk = true
   ·rw [if_pos c3, if_pos c3]
   ·rw [if_neg c3, if_neg c3]
theorem seg_l0 {W : List Int} (hW : bitL W) (hl : W.length ≤ 1099511627776) {fr en stop : Int} : ∀ (m i : Nat) (pre post : List Int) (val : Int) (xs : List Int) (nk : Bool), W = pre ++ post → pre.length = 9 * i → i + m = W.length / 9 → SegJ (W.length / 9) i (foldB k0 pre) val xs nk →
  Ev (fun k => r23_segment.l0 k (strB W) ((W.length / 9 : Nat) : Int) xs nk (i : Int) 5 fr en val stop ⟨#[]⟩ 0) (etup (frmV ⟨2, 0, fr, (foldB k0 W).f3, 0, (foldB k0 W).f5, 0, (foldB k0 W).f7⟩ en stop))
 | 0, i, pre, post, val, xs, nk, hw, hp, him, J => by
  have hi : i = W.length / 9 := by omega
  have hlen : W.length = pre.length + post.length := by rw [hw, List.length_append]
  refine ev_from 1 (fun k => ?_)
  have h := seg_end (pre := pre) (r := post) (fr := fr) (en := en) (stop := stop) (val := val) (xs := xs) (nk := nk) (G := W.length / 9) (by rw [hi] at J; exact J) rfl (by omega) (by omega) (by omega) k
  rw [← hw] at h
  rw [hi]
  exact h
 | m + 1, i, pre, post, val, xs, nk, hw, hp, him, J => by
  have hlen : W.length = pre.length + post.length := by rw [hw, List.length_append]
  have h9 : 9 ≤ post.length := by omega
  obtain ⟨o, a, r, ho, hpost⟩ : ∃ o a r, o.length = 8 ∧ post = o ++ (a :: r) :=
   ⟨post.take 8, post[8], post.drop 9, by rw [List.length_take]; omega, by rw [← List.drop_eq_getElem_cons (by omega), List.take_append_drop]⟩
  subst hpost
  have hbo : ∀ v ∈ o, v = 0 ∨ v = 1 := fun v hv => hW v (by rw [hw]; simp [hv])
  have hba : a = 0 ∨ a = 1 := hW a (by rw [hw]; simp)
  obtain ⟨_, o0, o1⟩ := oct_at (pre := pre) (r := a :: r) hbo ho (by rw [← hw]; exact hl) (Nat.le_refl 9)
  have J2 := segJ_step J (by omega) ho ⟨o0, o1⟩ hba
  rw [← foldB_append] at J2
  have ih := seg_l0 hW hl (fr := fr) (en := en) (stop := stop) m (i + 1) (pre ++ (o ++ [a])) r _ _ _ (by rw [hw]; simp) (by rw [List.length_append, List.length_append, ho, hp]; simp only [List.length_cons, List.length_nil]; omega) (by omega) J2
  refine ev_step 9 (fun k hk => ?_) ih
  have hs := seg_step (pre := pre) (o := o) (r := r) (a := a) (G := W.length / 9) (i := i) (val := val) (fr := fr) (en := en) (stop := stop) (xs := xs) (nk := nk) hbo hba ho hp (by omega) (by omega) (by rw [← hw]; exact hl) (fun hh => (J.more hh).1.1) hk
  rw [← hw] at hs
  exact hs
theorem segment_ev {B : List Int} (hB : bitL B) (hl : B.length ≤ 1099511627776) {s : StT} (h3 : s.f3 = (foldB k0 B).f3) (h5 : s.f5 = (foldB k0 B).f5) (h7 : s.f7 = (foldB k0 B).f7) (en stop : Int) :
  Ev (fun k => r23_segment.f k (strB B) s.f2 en stop) (etup (frmV s en stop)) := by
 have e : frmV s en stop = frmV ⟨2, 0, s.f2, (foldB k0 B).f3, 0, (foldB k0 B).f5, 0, (foldB k0 B).f7⟩ en stop := by
  unfold frmV fltV
  dsimp only
  rw [h3, h5, h7]
 rw [e]
 have J : SegJ (B.length / 9) 0 (foldB k0 []) (-1) [] false := ⟨rfl, rfl, fun _ => ⟨rfl, rfl, rfl, rfl, rfl⟩, fun h => absurd h (by omega), ⟨fun h => absurd h (by decide), fun h => absurd h (by decide)⟩, fun _ => ⟨fun h => absurd h (by decide), fun h => absurd h (by decide)⟩, fun _ => ⟨fun h => absurd h (by decide), fun h => by
  rcases h with h | h
  ·exact absurd h (by decide)
  ·exact absurd h.1 (by decide)⟩⟩
 have h := seg_l0 hB hl (fr := s.f2) (en := en) (stop := stop) (B.length / 9) 0 [] B (-1) [] false rfl rfl (by omega) J
 refine Ev.congr (fun k => ?_) h
 unfold r23_segment.f
 rw [strB_size, w64 (by omega) (by omega)]
 rfl
structure Rel (n : Nat) (s r : StT) : Prop where
 ph : s.f0 = 0 ∨ s.f0 = 1 ∨ s.f0 = 2
 p0 : r.f0 = if s.f0 = 0 then 0 else 1
 p1 : r.f1 = s.f1
 p6 : r.f6 = s.f6
 p3 : r.f3 = if s.f0 = 2 then 1 else 0
 inv : Inv s
 seg : s.f0 = 2 → r.f2 = s.f2 ∧ ∃ B, bitL B ∧ B.length ≤ n ∧ r.f7 = strB B ∧ s.f3 = (foldB k0 B).f3 ∧ s.f4 = (foldB k0 B).f4 ∧ s.f5 = (foldB k0 B).f5 ∧ s.f7 = (foldB k0 B).f7
theorem rel_z : Rel 0 z0 z0 := ⟨.inl rfl, rfl, rfl, rfl, rfl, inv_z0, fun h => absurd h (by decide : ¬ (0 : Int) = 2)⟩
theorem rel_acc {n : Nat} {s r : StT} (h : Rel n s r) (x : EvT) : accP r x ↔ accP s x := by
 have h0 : r.f0 = 0 ↔ s.f0 = 0 := by
  rw [h.p0]
  split <;> simp_all
 show (_ ∧ _ ∧ _ ∧ _ ∧ _ ∧ (r.f0 = 0 ∨ x.f1 = r.f1)) ↔ (_ ∧ _ ∧ _ ∧ _ ∧ _ ∧ (s.f0 = 0 ∨ x.f1 = s.f1))
 rw [h0, h.p1]
theorem bitV_same {s t : StT} (h3 : s.f3 = t.f3) (h4 : s.f4 = t.f4) (h5 : s.f5 = t.f5) (h7 : s.f7 = t.f7) (v : Int) : (bitV s v).f3 = (bitV t v).f3 ∧ (bitV s v).f4 = (bitV t v).f4 ∧ (bitV s v).f5 = (bitV t v).f5 ∧ (bitV s v).f7 = (bitV t v).f7 ∧ (bitV s v).f2 = s.f2 := by
 unfold bitV
 rw [h3, h4, h5, h7]
 split <;> exact ⟨rfl, rfl, rfl, rfl, rfl⟩
theorem chg0 {a b : Int} (h : b % 2 = 0 ∨ (a % 2 = 1 ∧ b % 2 = 1 ∧ a / 2 = b / 2)) : chgV a b = 0 := by
 unfold chgV
 rw [if_neg (by omega), if_neg (by omega), if_neg (by omega)]
theorem chg1 {a b : Int} (ha : 0 ≤ a ∧ a ≤ 3) (hb : 0 ≤ b ∧ b ≤ 3) (h1 : a % 2 = 1) (h2 : b % 2 = 1) (h : ¬ b / 2 = a / 2) : chgV a b = if b / 2 = 0 then 1 else 2 := by
 unfold chgV
 by_cases c : b / 2 = 0
 ·rw [if_pos (by omega), if_pos c]
 ·rw [if_neg (by omega), if_pos (by omega), if_neg c]
theorem chg3 {a b : Int} (h1 : a % 2 = 0) (h2 : b % 2 = 1) : chgV a b = 3 := chgV_read h1 h2
theorem ref_step {c : Int} {n : Nat} {s r : StT} (h : Rel n s r) (hn : n ≤ 1099511627776) (x : EvT) : ∃ r', Ev (fun k => r23_Step.f k c r.f0 r.f1 r.f2 r.f3 r.f4 r.f5 r.f6 r.f7 x.f0 x.f1 x.f2 x.f3 x.f4 x.f5 x.f6) (pk r' (stepV c s x).2) ∧ Rel (n + 1) (stepV c s x).1 r' := by
 have mono : ∀ {s r : StT}, Rel n s r → Rel (n + 1) s r := fun h => ⟨h.ph, h.p0, h.p1, h.p6, h.p3, h.inv, fun e => by
  obtain ⟨a, B, b1, b2, b3⟩ := h.seg e
  exact ⟨a, B, b1, by omega, b3⟩⟩
 have hno : ¬ (okC c ∧ accP s x) → ∃ r', Ev (fun k => r23_Step.j0 k true r.f0 r.f1 r.f2 r.f3 r.f4 r.f5 r.f6 r.f7 x.f0 x.f1 x.f2 x.f3 x.f4 x.f5 x.f6) (pk r' (stepV c s x).2) ∧ Rel (n + 1) (stepV c s x).1 r' := fun hh => by
  have e : stepV c s x = (s, []) := if_neg hh
  rw [e]
  exact ⟨r, ev_from 1 (fun k => rfl), mono h⟩
 by_cases hc : okC c
 ·by_cases ha : accP s x
  ·have e : stepV c s x = goV s x.f1 x.f2 x.f3 := if_pos ⟨hc, ha⟩
   rw [e]
   have hf : ∀ k, r23_Step.f k c r.f0 r.f1 r.f2 r.f3 r.f4 r.f5 r.f6 r.f7 x.f0 x.f1 x.f2 x.f3 x.f4 x.f5 x.f6 = r23_Step.j0 k false r.f0 r.f1 r.f2 r.f3 r.f4 r.f5 r.f6 r.f7 x.f0 x.f1 x.f2 x.f3 x.f4 x.f5 x.f6 := fun k => by
    unfold r23_Step.f
    rw [(check_eq c).2, Option.bind_some, check_ok hc, if_pos rfl, accepts_eq, Option.bind_some, decide_eq_true ((rel_acc h x).mpr ha)]
    rfl
   have hv := ha.2.2.2.2.1
   have hp := h.inv.1
   have hinv := goV_inv h.inv (a := x.f1) (b := x.f2) hv
   have tv : Int.tmod x.f3 2 = x.f3 % 2 := Int.tmod_eq_emod_of_nonneg hv.1
   have td : wrap64 (Int.tdiv x.f3 2) = x.f3 / 2 := by rw [Int.tdiv_eq_ediv_of_nonneg hv.1]; exact w64 (by omega) (by omega)
   have tp : Int.tmod r.f6 2 = s.f6 % 2 := by rw [h.p6]; exact Int.tmod_eq_emod_of_nonneg hp.1
   have tq : wrap64 (Int.tdiv r.f6 2) = s.f6 / 2 := by rw [h.p6, Int.tdiv_eq_ediv_of_nonneg hp.1]; exact w64 (by omega) (by omega)
   have hs0 : ¬ s.f0 = 0 → (s.f0 = 1 ∨ s.f0 = 2) := fun h0 => by have := h.ph; omega
   by_cases c0 : s.f0 = 0
   ·have hr0 : r.f0 = 0 := by rw [h.p0, if_pos c0]
    have eg : goV s x.f1 x.f2 x.f3 = (⟨1, x.f2, 0, 0, 0, 0, x.f3, ⟨#[]⟩⟩, []) := if_pos c0
    rw [eg] at hinv ⊢
    refine ⟨⟨1, x.f2, r.f2, r.f3, r.f4, r.f5, x.f3, r.f7⟩, ev_from 1 (fun k => ?_), ⟨.inr (.inl rfl), rfl, rfl, rfl, ?_, hinv, fun h => absurd h (by decide : ¬ (1 : Int) = 2)⟩⟩
    ·rw [hf]
     simp only [r23_Step.j0, if_neg Bool.false_ne_true]
     exact if_pos hr0
    ·show r.f3 = _
     rw [h.p3, if_neg (by omega)]
     rfl
   ·have hr0 : ¬ r.f0 = 0 := by rw [h.p0, if_neg c0]; decide
    have h12 := hs0 c0
    -- time alone
    have plain : chgV s.f6 x.f3 = 0 ∨ (chgV s.f6 x.f3 = 3 ∧ ¬ s.f0 = 2) → Rel (n + 1) (goV s x.f1 x.f2 x.f3).1 ⟨1, x.f2, r.f2, r.f3, r.f4, r.f5, x.f3, r.f7⟩ ∧ (goV s x.f1 x.f2 x.f3).2 = [] := fun hq => by
     have eg : goV s x.f1 x.f2 x.f3 = (⟨s.f0, x.f2, s.f2, s.f3, s.f4, s.f5, x.f3, s.f7⟩, []) := by
      unfold goV
      rw [if_neg c0, if_neg (by omega), if_neg (by omega), if_neg (fun hh => by omega)]
     rw [eg] at hinv ⊢
     refine ⟨⟨h.ph, ?_, rfl, rfl, h.p3, hinv, fun e2 => ?_⟩, rfl⟩
     ·show (1 : Int) = if s.f0 = 0 then 0 else 1
      rw [if_neg c0]
     ·obtain ⟨a1, B, b1, b2, b3⟩ := h.seg e2
      exact ⟨a1, B, b1, by omega, b3⟩
    have hplain : chgV s.f6 x.f3 = 0 ∨ (chgV s.f6 x.f3 = 3 ∧ ¬ s.f0 = 2) → (∀ k, r23_Step.j0 (k + 3) false r.f0 r.f1 r.f2 r.f3 r.f4 r.f5 r.f6 r.f7 x.f0 x.f1 x.f2 x.f3 x.f4 x.f5 x.f6 = some (1, x.f2, r.f2, r.f3, r.f4, r.f5, x.f3, r.f7, [])) → ∃ r', Ev (fun k => r23_Step.f k c r.f0 r.f1 r.f2 r.f3 r.f4 r.f5 r.f6 r.f7 x.f0 x.f1 x.f2 x.f3 x.f4 x.f5 x.f6) (pk r' (goV s x.f1 x.f2 x.f3).2) ∧ Rel (n + 1) (goV s x.f1 x.f2 x.f3).1 r' := fun hq hk => by
     obtain ⟨q1, q2⟩ := plain hq
     refine ⟨⟨1, x.f2, r.f2, r.f3, r.f4, r.f5, x.f3, r.f7⟩, ev_from 3 (fun k => ?_), q1⟩
     rw [hf, hk, q2]
     rfl
    by_cases c1 : x.f3 % 2 = 1
    ·by_cases c2 : s.f6 % 2 = 0
     ·have hch := chg3 c2 c1
      by_cases c3 : s.f0 = 2
      ·obtain ⟨a1, B, b1, b2, b3, b4, b5, b6, b7⟩ := h.seg c3
       have eg : goV s x.f1 x.f2 x.f3 = (bitV ⟨s.f0, x.f2, s.f2, s.f3, s.f4, s.f5, x.f3, s.f7⟩ (x.f3 / 2), []) := goV_3 s _ _ _ c3 hch
       obtain ⟨g3, g4, g5, g7, g2⟩ := bitV_same (s := ⟨s.f0, x.f2, s.f2, s.f3, s.f4, s.f5, x.f3, s.f7⟩) (t := foldB k0 B) b4 b5 b6 b7 (x.f3 / 2)
       obtain ⟨q1, q2, q3⟩ := bitV_prev ⟨s.f0, x.f2, s.f2, s.f3, s.f4, s.f5, x.f3, s.f7⟩ (x.f3 / 2)
       have hb : x.f3 / 2 = 0 ∨ x.f3 / 2 = 1 := by omega
       have hr3 : (r.f3 == 1) = true := by rw [h.p3, if_pos c3]; rfl
       have e7 : r.f7 ++ (⟨#[UInt8.ofNat (48 + (x.f3 / 2).toNat)]⟩ : ByteArray) = strB (B ++ [x.f3 / 2]) := by rw [strB_append, b3]; rfl
       have hsz : r.f7.size + 1 ≤ 9223372036854775807 := by rw [b3, strB_size]; omega
       rw [eg] at hinv ⊢
       refine ⟨⟨1, x.f2, r.f2, r.f3, r.f4, r.f5, x.f3, strB (B ++ [x.f3 / 2])⟩, ev_from 2 (fun k => ?_), ⟨.inr (.inr (q2.trans c3)), ?_, ?_, ?_, ?_, hinv, fun _ => ⟨a1.trans g2.symm, B ++ [x.f3 / 2], ?_, ?_, rfl, ?_⟩⟩⟩
       ·rw [hf]
        simp only [r23_Step.j0, if_neg Bool.false_ne_true]
        refine (if_neg hr0).trans ?_
        rw [tv, tp]
        refine (if_pos c1).trans ((if_pos c2).trans ?_)
        rw [hr3, td]
        simp only [r23_Step.j1, if_true]
        rw [← e7]
        rcases hb with hb | hb
        ·refine (if_neg (by omega)).trans ((if_pos hsz).trans ?_)
         rw [hb]
         rfl
        ·refine (if_pos hb).trans ((if_pos hsz).trans ?_)
         rw [hb]
         rfl
       ·show (1 : Int) = _
        rw [q2, if_neg c0]
       ·exact q3.symm
       ·exact q1.symm
       ·show r.f3 = _
        rw [q2, h.p3]
       ·intro v hv
        rcases List.mem_append.mp hv with hv | hv
        ·exact b1 v hv
        ·rw [List.mem_singleton.mp hv]
         exact hb
       ·rw [List.length_append]
        show B.length + 1 ≤ n + 1
        omega
       ·rw [foldB_append]
        exact ⟨g3, g4, g5, g7⟩
      ·have hr3 : (r.f3 == 1) = false := by rw [h.p3, if_neg c3]; rfl
       refine hplain (.inr ⟨hch, c3⟩) (fun k => ?_)
       simp only [r23_Step.j0, if_neg Bool.false_ne_true]
       refine (if_neg hr0).trans ?_
       rw [tv, tp]
       refine (if_pos c1).trans ((if_pos c2).trans ?_)
       rw [hr3]
       simp only [r23_Step.j1, if_neg Bool.false_ne_true]
       refine (if_neg (by omega)).trans ((if_pos c2).trans ?_)
       rfl
     ·have c2' : s.f6 % 2 = 1 := by omega
      by_cases c4 : x.f3 / 2 = s.f6 / 2
      ·refine hplain (.inl (chg0 (.inr ⟨c2', c1, c4.symm⟩))) (fun k => ?_)
       simp only [r23_Step.j0, if_neg Bool.false_ne_true]
       refine (if_neg hr0).trans ?_
       rw [tv, tp]
       refine (if_pos c1).trans ((if_neg c2).trans ?_)
       rw [td, tq]
       simp only [r23_Step.j1, if_neg Bool.false_ne_true]
       refine (if_neg (by omega)).trans ((if_neg c2).trans ?_)
       rw [beq_iff_eq.mpr c4]
       rfl
      ·have hch := chg1 hp hv c2' c1 c4
       have hne : (x.f3 / 2 == s.f6 / 2) = false := beq_eq_false_iff_ne.mpr c4
       have hw1 : wrap64 (1 - x.f3 / 2) = 1 - x.f3 / 2 := w64 (by omega) (by omega)
       have hpre : ∀ k, r23_Step.f (k + 3) c r.f0 r.f1 r.f2 r.f3 r.f4 r.f5 r.f6 r.f7 x.f0 x.f1 x.f2 x.f3 x.f4 x.f5 x.f6 = r23_Step.j2 (k + 1) (x.f3 / 2) false r.f0 r.f1 r.f2 r.f3 r.f4 r.f5 r.f6 r.f7 x.f0 x.f1 x.f2 x.f3 x.f4 x.f5 x.f6 1 x.f2 r.f2 r.f3 r.f4 r.f5 x.f3 r.f7 := fun k => by
        rw [hf]
        simp only [r23_Step.j0, if_neg Bool.false_ne_true]
        refine (if_neg hr0).trans ?_
        rw [tv, tp]
        refine (if_pos c1).trans ((if_neg c2).trans ?_)
        rw [td, tq]
        simp only [r23_Step.j1, if_neg Bool.false_ne_true]
        refine (if_neg (by omega)).trans ((if_neg c2).trans ?_)
        rw [hne]
       have tail : ∀ y : List EvT, (if x.f3 / 2 = 0 then (some (1, x.f2, x.f1, wrap64 (1 - x.f3 / 2), r.f4, r.f5, x.f3, (⟨#[]⟩ : ByteArray), y)) else (some (1, x.f2, 0, wrap64 (1 - x.f3 / 2), r.f4, r.f5, x.f3, (⟨#[]⟩ : ByteArray), y))) = some (pk ⟨1, x.f2, if x.f3 / 2 = 0 then x.f1 else 0, 1 - x.f3 / 2, r.f4, r.f5, x.f3, ⟨#[]⟩⟩ y) := fun y => by
        rw [hw1]
        by_cases c5 : x.f3 / 2 = 0
        ·rw [if_pos c5, if_pos c5]
         rfl
        ·rw [if_neg c5, if_neg c5]
         rfl
       have hev : Ev (fun k => r23_Step.j2 k (x.f3 / 2) false r.f0 r.f1 r.f2 r.f3 r.f4 r.f5 r.f6 r.f7 x.f0 x.f1 x.f2 x.f3 x.f4 x.f5 x.f6 1 x.f2 r.f2 r.f3 r.f4 r.f5 x.f3 r.f7) (pk ⟨1, x.f2, if x.f3 / 2 = 0 then x.f1 else 0, 1 - x.f3 / 2, r.f4, r.f5, x.f3, ⟨#[]⟩⟩ (if s.f0 = 2 then [frmV s x.f1 (x.f3 / 2)] else [])) := by
        by_cases c3 : s.f0 = 2
        ·obtain ⟨a1, B, b1, b2, b3, b4, b5, b6, b7⟩ := h.seg c3
         have hsg := segment_ev b1 (by omega) b4 b6 b7 x.f1 (x.f3 / 2)
         rw [← a1, ← b3] at hsg
         rw [if_pos c3]
         have hr3 : r.f3 = 1 := by rw [h.p3, if_pos c3]
         have hfin := Ev.bind (f := fun _ (bt347 : Int × Int × Int × Int × Int × ByteArray × Int) => some (pk ⟨1, x.f2, if x.f3 / 2 = 0 then x.f1 else 0, 1 - x.f3 / 2, r.f4, r.f5, x.f3, ⟨#[]⟩⟩ [(⟨bt347.1, bt347.2.1, bt347.2.2.1, bt347.2.2.2.1, bt347.2.2.2.2.1, bt347.2.2.2.2.2.1, bt347.2.2.2.2.2.2⟩ : EvT)])) hsg (Ev.now _)
         refine Ev.step (fun k => ?_) hfin
         simp only [r23_Step.j2, if_neg Bool.false_ne_true, Option.bind_some]
         refine (if_pos hr3).trans ?_
         refine congrArg _ (funext fun bt => ?_)
         exact (if_pos (show (0 : Nat) < 2199023255552 by decide)).trans (tail _)
        ·rw [if_neg c3]
         refine ev_from 1 (fun k => ?_)
         have hr3 : ¬ r.f3 = 1 := by rw [h.p3, if_neg c3]; decide
         simp only [r23_Step.j2, if_neg Bool.false_ne_true, Option.bind_some]
         exact (if_neg hr3).trans (tail _)
       have hev2 : Ev (fun k => r23_Step.f k c r.f0 r.f1 r.f2 r.f3 r.f4 r.f5 r.f6 r.f7 x.f0 x.f1 x.f2 x.f3 x.f4 x.f5 x.f6) (pk ⟨1, x.f2, if x.f3 / 2 = 0 then x.f1 else 0, 1 - x.f3 / 2, r.f4, r.f5, x.f3, ⟨#[]⟩⟩ (if s.f0 = 2 then [frmV s x.f1 (x.f3 / 2)] else [])) := by
        obtain ⟨K, hK⟩ := hev
        refine ⟨K + 3, fun k hk => ?_⟩
        have := hpre (k - 3)
        rw [show k - 3 + 3 = k by omega] at this
        exact this.trans (hK _ (by omega))
       by_cases c5 : x.f3 / 2 = 0
       ·rw [if_pos c5] at hch
        have eg := goV_1 s x.f1 x.f2 x.f3 c0 hch
        rw [eg] at hinv ⊢
        rw [if_pos c5] at hev2
        rw [c5] at hev2
        exact ⟨_, hev2, ⟨.inr (.inr rfl), rfl, rfl, rfl, rfl, hinv, fun _ => ⟨rfl, [], fun v hv => absurd hv (by simp), Nat.zero_le _, rfl, rfl, rfl, rfl, rfl⟩⟩⟩
       ·rw [if_neg c5] at hch
        have eg := goV_2 s x.f1 x.f2 x.f3 c0 hch
        have c6 : x.f3 / 2 = 1 := by omega
        rw [eg] at hinv ⊢
        rw [if_neg c5] at hev2
        rw [c6] at hev2
        exact ⟨_, hev2, ⟨.inr (.inl rfl), rfl, rfl, rfl, rfl, hinv, fun hh => absurd hh (by decide : ¬ (1 : Int) = 2)⟩⟩
    ·refine hplain (.inl (chg0 (.inl (by omega)))) (fun k => ?_)
     simp only [r23_Step.j0, if_neg Bool.false_ne_true]
     refine (if_neg hr0).trans ?_
     rw [tv, tp]
     refine (if_neg c1).trans ?_
     simp only [r23_Step.j1, if_neg Bool.false_ne_true]
     refine (if_pos (by omega)).trans ?_
     rfl
  ·obtain ⟨r', h1, h2⟩ := hno (fun hh => ha hh.2)
   refine ⟨r', Ev.congr (fun k => ?_) h1, h2⟩
   unfold r23_Step.f
   rw [(check_eq c).2, Option.bind_some, check_ok hc, if_pos rfl, accepts_eq, Option.bind_some, decide_eq_false (fun hh => ha ((rel_acc h x).mp hh))]
   rfl
 ·obtain ⟨r', h1, h2⟩ := hno (fun hh => hc hh.1)
  refine ⟨r', Ev.congr (fun k => ?_) h1, h2⟩
  unfold r23_Step.f
  rw [(check_eq c).2, Option.bind_some, check_no hc, if_neg (by decide)]
theorem ref_end {c : Int} {n : Nat} {s r : StT} (h : Rel n s r) : r23_End.f c r.f0 r.f1 r.f2 r.f3 r.f4 r.f5 r.f6 r.f7 = some (endV c s) := by
 unfold r23_End.f endV
 rw [(check_eq c).2, Option.bind_some]
 by_cases hc : okC c
 ·rw [check_ok hc, if_pos rfl, h.p3, h.p1]
  by_cases h2 : s.f0 = 2
  ·rw [if_pos h2, if_neg (by decide), if_pos ⟨hc, h2⟩, (h.seg h2).1]
  ·rw [if_neg h2, if_pos rfl, if_neg (fun hh => h2 hh.2)]
 ·rw [check_no hc, if_neg (by decide), if_neg (fun hh => hc hh.1)]
theorem refdec_l0 {c : Int} : ∀ (post pre out : List EvT) (n : Nat) (s r : StT), Rel n s r → n + post.length ≤ 1099511627776 → out.length + post.length + 1 < 2199023255552 → (pre ++ post).length ≤ 1099511627776 →
  Ev (fun k => r23_Decode.l0 k (pre ++ post) out (pre.length : Int) c r.f0 r.f1 r.f2 r.f3 r.f4 r.f5 r.f6 r.f7) (out ++ ((runV c s post).2 ++ endV c (runV c s post).1))
 | [], pre, out, n, s, r, hs, hn', ho, hl => by
  have hz := endV_len c s
  refine Ev.step (f := fun _ => some (out ++ endV c s)) (fun k => ?_) (Ev.now _)
  simp only [r23_Decode.l0]
  rw [if_neg (by simp), ref_end hs, Option.bind_some, if_pos (by simp only [List.length_nil] at ho; omega)]
 | x :: post, pre, out, n, s, r, hs, hn', ho, hl => by
  have hlt := midl_lt pre post x
  have hn : pre.length ≤ 9223372036854775806 := by
   simp only [List.length_append, List.length_cons] at hl
   omega
  have h1 := stepV_len c s x
  simp only [List.length_cons] at ho hn'
  obtain ⟨r', hst, hrel⟩ := ref_step (c := c) hs (by omega) x
  have ih := refdec_l0 (c := c) post (pre ++ [x]) (out ++ (stepV c s x).2) (n + 1) (stepV c s x).1 r' hrel (by omega) (by rw [List.length_append]; omega) (by simpa using hl)
  rw [← mid_snoc] at ih
  have er : out ++ (stepV c s x).2 ++ ((runV c (stepV c s x).1 post).2 ++ endV c (runV c (stepV c s x).1 post).1) = out ++ ((runV c s (x :: post)).2 ++ endV c (runV c s (x :: post)).1) := by
   simp only [runV, List.append_assoc]
  rw [er] at ih
  have hg : out.length + (stepV c s x).2.length < 2199023255552 := by omega
  have hb := Ev.bind (f := fun k (bt377 : Int × Int × Int × Int × Int × Int × Int × ByteArray × List EvT) => if out.length + bt377.2.2.2.2.2.2.2.2.length < 2199023255552 then r23_Decode.l0 k (pre ++ x :: post) (out ++ bt377.2.2.2.2.2.2.2.2) (wrap64 ((pre.length : Int) + 1)) c bt377.1 bt377.2.1 bt377.2.2.1 bt377.2.2.2.1 bt377.2.2.2.2.1 bt377.2.2.2.2.2.1 bt377.2.2.2.2.2.2.1 bt377.2.2.2.2.2.2.2.1 else none) hst (Ev.congr (fun k => (if_pos hg).trans (by rw [succ_mid _ _ hn]; rfl)) ih)
  refine Ev.step (fun k => ?_) hb
  simp only [r23_Decode.l0]
  rw [if_pos hlt, if_pos (by omega), rdE_mid]
theorem refdec_ev (c : Int) {l : List EvT} (hl : l.length ≤ 262144) : Ev (fun k => r23_Decode.f k c l) (decV c l) := by
 have h := refdec_l0 (c := c) l [] [] 0 z0 z0 rel_z (by omega) (by simp only [List.length_nil]; omega) (by simp only [List.nil_append]; omega)
 exact Ev.congr (fun k => rfl) h
theorem decodes_l0 {c : Int} {L : List EvT} (hL : L.length ≤ 4000) : ∀ (post pre : List EvT) (n : Nat) (s r : StT), L = pre ++ post → Rel n s r → n + post.length ≤ 1099511627776 →
  Ev (fun k => lw_I2cDecodes.l0 k L (pre.length : Int) c s.f0 s.f1 s.f2 s.f3 s.f4 s.f5 s.f6 s.f7 r.f0 r.f1 r.f2 r.f3 r.f4 r.f5 r.f6 r.f7) true
 | [], pre, n, s, r, hw, hs, hn' => by
  have hz := endV_len c s
  have hse := same07_ev (l := endV c s) (by omega)
  have hd := dec_ev c (l := L) (by omega)
  have hr := refdec_ev c (l := L) (by omega)
  have hsd := same07_ev (l := decV c L) (by have := decV_len c L; omega)
  have h3 := Ev.bind (f := fun k (t458 : Bool) => if t458 = true then ((lw_awake.f k).bind fun t459 => (some t459)) else none) hsd (awk 0 (fun k _ => if_pos rfl))
  have h2 := Ev.bind (f := fun k (t452 : List EvT) => (r23_Decode.f k c L).bind fun t455 => ((r07_Same.f k t452 t455).bind fun t458 => (if t458 = true then ((lw_awake.f k).bind fun t459 => (some t459)) else (none)))) hd (Ev.bind hr h3)
  have h1 := Ev.bind (f := fun k (t451 : Bool) => if t451 = true then ((i2c_Decode.f k c L).bind fun t452 => ((r23_Decode.f k c L).bind fun t455 => ((r07_Same.f k t452 t455).bind fun t458 => (if t458 = true then ((lw_awake.f k).bind fun t459 => (some t459)) else (none))))) else none) hse (Ev.congr (fun k => if_pos rfl) h2)
  have hlt : ¬ ((pre.length : Int) < (L.length : Int)) := by rw [hw]; simp
  refine Ev.step (fun k => ?_) h1
  simp only [lw_I2cDecodes.l0]
  rw [if_neg hlt, end_eq, Option.bind_some, ref_end hs, Option.bind_some]
 | x :: post, pre, n, s, r, hw, hs, hn' => by
  have hlt : (pre.length : Int) < (L.length : Int) := by rw [hw]; exact midl_lt pre post x
  have hn : pre.length ≤ 9223372036854775806 := by
   rw [hw] at hL
   simp only [List.length_append, List.length_cons] at hL
   omega
  have hx : rd_T27 L (pre.length : Int) = x := by rw [hw]; exact rdE_mid pre post x
  simp only [List.length_cons] at hn'
  obtain ⟨r', hst, hrel⟩ := ref_step (c := c) hs (by omega) x
  have ih := decodes_l0 (c := c) hL post (pre ++ [x]) (n + 1) (stepV c s x).1 r' (by rw [hw]; simp) hrel (by omega)
  have h1 := stepV_len c s x
  have hsm := same07_ev (l := (stepV c s x).2) (by omega)
  have h3 := Ev.bind (f := fun k (t444 : Bool) => if t444 = true then (lw_I2cDecodes.l0 k L (wrap64 ((pre.length : Int) + 1)) c (stepV c s x).1.f0 (stepV c s x).1.f1 (stepV c s x).1.f2 (stepV c s x).1.f3 (stepV c s x).1.f4 (stepV c s x).1.f5 (stepV c s x).1.f6 (stepV c s x).1.f7 r'.f0 r'.f1 r'.f2 r'.f3 r'.f4 r'.f5 r'.f6 r'.f7) else none) hsm (Ev.congr (fun k => (if_pos rfl).trans (by rw [succ_mid _ _ hn])) ih)
  have h2 := Ev.bind (f := fun k (bt432 : Int × Int × Int × Int × Int × Int × Int × ByteArray × List EvT) => (r07_Same.f k (stepV c s x).2 bt432.2.2.2.2.2.2.2.2).bind fun t444 => (if t444 = true then (lw_I2cDecodes.l0 k L (wrap64 ((pre.length : Int) + 1)) c (stepV c s x).1.f0 (stepV c s x).1.f1 (stepV c s x).1.f2 (stepV c s x).1.f3 (stepV c s x).1.f4 (stepV c s x).1.f5 (stepV c s x).1.f6 (stepV c s x).1.f7 bt432.1 bt432.2.1 bt432.2.2.1 bt432.2.2.2.1 bt432.2.2.2.2.1 bt432.2.2.2.2.2.1 bt432.2.2.2.2.2.2.1 bt432.2.2.2.2.2.2.2.1) else none)) hst h3
  refine ev_step 5 (fun k hk => ?_) h2
  simp only [lw_I2cDecodes.l0]
  rw [if_pos hlt, if_pos (by omega), hx, step_at hs.inv x hk, Option.bind_some]
  rfl
theorem I2cDecodes_pure (c : Int) {l : List EvT} (hl : l.length ≤ 140737488355328) : ∃ k, lw_I2cDecodes.f k c l = some true := by
 refine Ev.rounds ?_
 unfold lw_I2cDecodes.f
 by_cases h4 : (l.length : Int) > 4000
 ·exact awk 0 (fun k _ => if_pos h4)
 ·refine Ev.congr (fun k => if_neg h4) ?_
  have h := decodes_l0 (c := c) (L := l) (by omega) l [] 0 z0 z0 rfl rel_z (by omega)
  exact Ev.congr (fun k => rfl) h
end Go.Proofs.Ytdbpablakhfdcaa
