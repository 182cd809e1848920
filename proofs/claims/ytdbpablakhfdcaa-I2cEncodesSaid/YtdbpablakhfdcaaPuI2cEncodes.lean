/- The law I2cEncodes as a plain statement on numbers and lists: with enough rounds it answers true; conditions: each number is one of its kind, no list or string is longer than its memory allows. -/
import Derived.Laws.BitsAllLaws
import Derived.WalkKit
import Derived.Test.YtdbpablakhfdcaaWMore
import Derived.Test.YtdbpablakhfdcaaQx0
import Derived.Test.YtdbpablakhfdcaaQx3
import Derived.Test.YtdbpablakhfdcaaQx4
import Derived.Test.YtdbpablakhfdcaaQx5
import Derived.Test.YtdbpablakhfdcaaQx6
import Derived.Test.YtdbpablakhfdcaaQx7
import Derived.Test.YtdbpablakhfdcaaQx8
import Derived.Test.YtdbpablakhfdcaaQx9
import Derived.Test.YtdbpablakhfdcaaQx10
import Derived.Test.YtdbpablakhfdcaaQx11
import Derived.Test.YtdbpablakhfdcaaQx12
import Derived.Test.YtdbpablakhfdcaaQx13
import Derived.Test.YtdbpablakhfdcaaQx14
import Derived.Test.YtdbpablakhfdcaaQx15
import Derived.Test.YtdbpablakhfdcaaQx16
import Derived.Test.YtdbpablakhfdcaaQx17
import Derived.Test.YtdbpablakhfdcaaQx18
import Derived.Test.YtdbpablakhfdcaaQx19
import Derived.Test.YtdbpablakhfdcaaQx20
namespace Go.Proofs.Ytdbpablakhfdcaa
open Go Go.RowKit Go.Proofs.YtdbpablakhfdcaaW.PrintWords Go.Proofs.YtdbpablakhfdcaaW.PrintLast Go.Proofs.Ytdbpablakhfdcaa.Q
set_option linter.unusedVariables false
theorem w64 {x : Int} (h0 : -9223372036854775808 ≤ x) (h1 : x ≤ 9223372036854775807) : wrap64 x = x := by
 unfold wrap64
 omega
theorem succ_mid {α : Type} (pre : List α) (x : α) (h : pre.length ≤ 9223372036854775806) : wrap64 ((pre.length : Int) + 1) = ((pre ++ [x]).length : Int) := by
 rw [w64 (by omega) (by omega)]
 simp
theorem mid_snoc {α : Type} (pre post : List α) (x : α) : pre ++ x :: post = (pre ++ [x]) ++ post := by simp
abbrev RunT := S53
abbrev ItT := S49
abbrev EvT := S27
structure StT where
 f0 : Int
 f1 : Int
 f2 : Int
 f3 : Int
 f4 : Int
 f5 : Int
 f6 : Int
 f7 : ByteArray
theorem e_app (b : ByteArray) : (⟨#[]⟩ : ByteArray) ++ b = b := ByteArray.empty_append
theorem app_e (b : ByteArray) : b ++ (⟨#[]⟩ : ByteArray) = b := ByteArray.append_empty
def chgV (was is : Int) : Int :=
 if was % 2 = 1 ∧ is % 2 = 1 ∧ was / 2 = 1 ∧ is / 2 = 0 then 1
 else if was % 2 = 1 ∧ is % 2 = 1 ∧ was / 2 = 0 ∧ is / 2 = 1 then 2
 else if was % 2 = 0 ∧ is % 2 = 1 then 3 else 0
def auxV (a v : Int) (d : Nat) : Int := (if a / 2 % 2 = 1 then 1 else a % 2) + 2 * (if v = 0 then 0 else 1) + 4 * (if d ≤ 4096 then a / 4 % 2 else 1)
def bitV (s : StT) (v : Int) : StT :=
 if s.f3 < 8 then ⟨s.f0, s.f1, s.f2, s.f3 + 1, 2 * s.f4 + v, s.f5, s.f6, s.f7⟩
 else ⟨s.f0, s.f1, s.f2, 0, 0, auxV s.f5 v s.f7.size, s.f6, if s.f7.size ≤ 4096 then s.f7 ++ ⟨#[UInt8.ofNat s.f4.toNat]⟩ else s.f7⟩
def fltV (s : StT) : Int := if s.f5 / 4 % 2 = 1 then 8 else if s.f3 > 1 then 7 else if s.f5 % 2 = 1 then 10 else if s.f5 / 2 % 2 = 1 ∧ ¬ (s.f7.size > 1 ∧ (s.f7.get! 0).toNat % 2 = 1) then 10 else 0
def frmV (s : StT) (en stop : Int) : EvT := ⟨5, s.f2, en, if s.f7.size = 0 then -1 else ((s.f7.get! 0).toNat : Int), stop, s.f7.extract 1 s.f7.size, fltV s⟩
def goV (s : StT) (a b v : Int) : StT × List EvT :=
 if s.f0 = 0 then (⟨1, b, 0, 0, 0, 0, v, (⟨#[]⟩ : ByteArray)⟩, [])
 else if chgV s.f6 v = 1 then (⟨2, b, a, 0, 0, 0, v, (⟨#[]⟩ : ByteArray)⟩, if s.f0 = 2 then [frmV s a 0] else [])
 else if chgV s.f6 v = 2 then (⟨1, b, 0, 0, 0, 0, v, (⟨#[]⟩ : ByteArray)⟩, if s.f0 = 2 then [frmV s a 1] else [])
 else if chgV s.f6 v = 3 ∧ s.f0 = 2 then (bitV ⟨s.f0, b, s.f2, s.f3, s.f4, s.f5, v, s.f7⟩ (v / 2), [])
 else (⟨s.f0, b, s.f2, s.f3, s.f4, s.f5, v, s.f7⟩, [])
theorem bitV_prev (s : StT) (v : Int) : (bitV s v).f6 = s.f6 ∧ (bitV s v).f0 = s.f0 ∧ (bitV s v).f1 = s.f1 := by
 unfold bitV
 split <;> exact ⟨rfl, rfl, rfl⟩
def sumT : List RunT → Int
 | [] => 0
 | r :: l => r.f1 + sumT l
theorem snoc_cases {α : Type} (o : List α) : o = [] ∨ ∃ q y, o = q ++ [y] := by
 rcases List.eq_nil_or_concat o with h | ⟨q, y, h⟩
 ·exact .inl h
 ·exact .inr ⟨q, y, by simpa using h⟩
def putR (o : List RunT) (v t : Int) : List RunT :=
 match o.getLast? with
 | some y => if y.f0 = v then o.dropLast ++ [⟨y.f0, y.f1 + t⟩] else o ++ [⟨v, t⟩]
 | none => [⟨v, t⟩]
theorem putR_nil (v t : Int) : putR [] v t = [⟨v, t⟩] := rfl
theorem putR_same (o : List RunT) (y : RunT) (t : Int) : putR (o ++ [y]) y.f0 t = o ++ [⟨y.f0, y.f1 + t⟩] := by
 simp [putR]
theorem putR_new (o : List RunT) (y : RunT) {v t : Int} (h : ¬ y.f0 = v) : putR (o ++ [y]) v t = o ++ [y] ++ [⟨v, t⟩] := by
 simp [putR, h]
def putP (o : List RunT) (r : RunT) : List RunT := if r.f1 < 1 then o else putR o r.f0 r.f1
theorem sumT_append : ∀ (p q : List RunT), sumT (p ++ q) = sumT p + sumT q
 | [], q => by simp [sumT]
 | r :: p, q => by
  simp only [List.cons_append, sumT]
  rw [sumT_append p q, Int.add_assoc]
theorem sumT_putR (o : List RunT) (v n : Int) : sumT (putR o v n) = sumT o + n := by
 rcases snoc_cases o with h | ⟨q, y, h⟩
 ·subst h
  simp [putR_nil, sumT]
 ·subst h
  by_cases c : y.f0 = v
  ·subst c
   rw [putR_same, sumT_append, sumT_append]
   simp only [sumT]
   omega
  ·rw [putR_new _ _ c, sumT_append]
   simp only [sumT]
   omega
def rawBit (T v : Int) : List RunT := [⟨2 * v, T⟩, ⟨2 * v + 1, 2 * T⟩, ⟨2 * v, T⟩]
def rawBits (T : Int) : List Int → List RunT
 | [] => []
 | v :: l => rawBit T v ++ rawBits T l
def bits8 (b : Int) : List Int := [b / 128 % 2, b / 64 % 2, b / 32 % 2, b / 16 % 2, b / 8 % 2, b / 4 % 2, b / 2 % 2, b % 2]
def rawByte (T b ack : Int) : List RunT := rawBits T (bits8 b ++ [ack])
def rawData (T value : Int) : List UInt8 → List RunT
 | [] => []
 | b :: l => rawByte T b.toNat (if l = [] ∧ value % 2 = 1 then 1 else 0) ++ rawData T value l
theorem chgV_read {p w : Int} (hp : p % 2 = 0) (hw : w % 2 = 1) : chgV p w = 3 := by
 unfold chgV
 rw [if_neg (by omega), if_neg (by omega), if_pos ⟨hp, hw⟩]
theorem goV_3 (s : StT) (a b w : Int) (h0 : s.f0 = 2) (hc : chgV s.f6 w = 3) : goV s a b w = (bitV ⟨s.f0, b, s.f2, s.f3, s.f4, s.f5, w, s.f7⟩ (w / 2), []) := by
 unfold goV
 rw [hc, if_neg (by omega), if_neg (by decide), if_neg (by decide), if_pos ⟨rfl, h0⟩]
theorem goV_1 (s : StT) (a b w : Int) (h0 : s.f0 ≠ 0) (hc : chgV s.f6 w = 1) : goV s a b w = (⟨2, b, a, 0, 0, 0, w, (⟨#[]⟩ : ByteArray)⟩, if s.f0 = 2 then [frmV s a 0] else []) := by
 unfold goV
 rw [hc, if_neg h0, if_pos rfl]
theorem goV_2 (s : StT) (a b w : Int) (h0 : s.f0 ≠ 0) (hc : chgV s.f6 w = 2) : goV s a b w = (⟨1, b, 0, 0, 0, 0, w, (⟨#[]⟩ : ByteArray)⟩, if s.f0 = 2 then [frmV s a 1] else []) := by
 unfold goV
 rw [hc, if_neg h0, if_neg (by decide), if_pos rfl]
def ItOk (x : ItT) : Prop := 0 ≤ x.f0 ∧ (0 ≤ x.f1 ∧ x.f1 ≤ 255) ∧ (x.f2 = 0 ∨ x.f2 = 1) ∧ x.f3.size ≤ 4096 ∧ (x.f4 = 0 ∨ x.f4 = 10) ∧ (x.f4 = 10 → x.f3.size = 0)
def segV (x : ItT) : ByteArray := (⟨#[UInt8.ofNat x.f1.toNat]⟩ : ByteArray) ++ x.f3
theorem segV_facts {x : ItT} (h : ItOk x) : (segV x).size = 1 + x.f3.size ∧ ((segV x).get! 0).toNat = x.f1.toNat ∧ (segV x).extract 1 (segV x).size = x.f3 := by
 obtain ⟨h0, ⟨h1, h2⟩, h3, h4, h5, h6⟩ := h
 have hs : (segV x).size = 1 + x.f3.size := by unfold segV; rw [ByteArray.size_append]; rfl
 refine ⟨hs, ?_, ?_⟩
 ·have e : (segV x).get! 0 = UInt8.ofNat x.f1.toNat := by
   have : (segV x).data[0]! = UInt8.ofNat x.f1.toNat := by
    unfold segV
    rw [ByteArray.data_append, getElem!_pos _ 0 (by simp; omega), Array.getElem_append_left (by simp)]
    rfl
   exact this
  rw [e, UInt8.toNat_ofNat']
  omega
 ·apply ByteArray.ext
  rw [ByteArray.data_extract, hs]
  unfold segV
  rw [ByteArray.data_append]
  apply Array.toList_inj.mp
  rw [Array.toList_extract, Array.toList_append]
  show List.take (1 + x.f3.size - 1) (List.drop 1 ([UInt8.ofNat x.f1.toNat] ++ x.f3.data.toList)) = x.f3.data.toList
  rw [Nat.add_sub_cancel_left]
  exact List.take_of_length_le (Nat.le_refl _)
theorem sum_nonneg {l : List RunT} (h : ∀ r ∈ l, 1 ≤ r.f1) : 0 ≤ sumT l := by
 induction l with
 | nil => exact Int.le_refl 0
 | cons r l ih =>
  have h1 := h r (.head _)
  have h2 := ih (fun y hy => h y (.tail _ hy))
  simp only [sumT]
  omega
def bodyR (T : Int) (x : ItT) : List RunT := rawByte T x.f1 (if x.f4 = 10 then 1 else 0) ++ rawData T x.f1 x.f3.toList
theorem toList_eq (d : ByteArray) : d.toList.toArray = d.data ∧ (d.toList = [] ↔ d.size = 0) ∧ d.toList.length = d.size := by
 have e : d.toList = d.data.toList := by simp [ByteArray.toList_eq]
 refine ⟨by rw [e], ?_, by rw [e]; rfl⟩
 rw [e]
 exact ⟨fun h => by show d.data.toList.length = 0; rw [h]; rfl, fun h => List.length_eq_zero_iff.mp h⟩
def frontR (T : Int) (x : ItT) (first : Bool) : List RunT := if first = true then [⟨3, x.f0⟩] else [⟨0, x.f0⟩] ++ [⟨2, T⟩, ⟨3, T⟩]
def stopR (T : Int) (x : ItT) : List RunT := if x.f2 = 1 then [⟨0, T⟩, ⟨1, T⟩, ⟨3, 4 * T⟩] else []
def rawItem (T : Int) (x : ItT) (first : Bool) : List RunT := frontR T x first ++ (([⟨1, T⟩, ⟨0, T⟩] ++ bodyR T x) ++ stopR T x)
def rawAll (T : Int) : Bool → List ItT → List RunT
 | _, [] => []
 | b, x :: l => rawItem T x b ++ rawAll T (x.f2 == 1) l
def lastV : Bool → List ItT → Prop
 | b, [] => b = true
 | _, x :: l => lastV (x.f2 == 1) l
theorem ev_from {α : Type} {g : Nat → Option α} {r : α} (n : Nat) (h : ∀ k, g (k + n) = some r) : Ev g r :=
 ⟨n, fun k hk => by have := h (k - n); rwa [show k - n + n = k by omega] at this⟩
abbrev TupT := Int × Int × Int × Int × Int × Int × Int × ByteArray
def pk (s : StT) (o : List EvT) : Int × Int × Int × Int × Int × Int × Int × ByteArray × List EvT := (s.f0, s.f1, s.f2, s.f3, s.f4, s.f5, s.f6, s.f7, o)
abbrev okC (c : Int) : Prop := 1 ≤ c ∧ c ≤ 1048576
abbrev validP (x : EvT) : Prop := (1 ≤ x.f0 ∧ x.f0 ≤ 8) ∧ (0 ≤ x.f1 ∧ x.f1 ≤ x.f2 ∧ x.f2 ≤ 1099511627776) ∧ (-9007199254740992 ≤ x.f3 ∧ x.f3 ≤ 9007199254740992) ∧ (-9007199254740992 ≤ x.f4 ∧ x.f4 ≤ 9007199254740992) ∧ x.f5.size ≤ 4096 ∧ (0 ≤ x.f6 ∧ x.f6 ≤ 12)
abbrev accP (s : StT) (x : EvT) : Prop := validP x ∧ x.f0 = 1 ∧ x.f6 = 0 ∧ x.f1 < x.f2 ∧ (0 ≤ x.f3 ∧ x.f3 ≤ 3) ∧ (s.f0 = 0 ∨ x.f1 = s.f1)
def stepV (c : Int) (s : StT) (x : EvT) : StT × List EvT := if okC c ∧ accP s x then goV s x.f1 x.f2 x.f3 else (s, [])
def check_i2c (c : Int) : Int := if okC c then 0 else 2
theorem check_eq (c : Int) : i2c_Check.f c = some (check_i2c c) ∧ r23_Check.f c = some (check_i2c c) := by
 unfold i2c_Check.f r23_Check.f check_i2c okC
 by_cases h0 : c < 1
 ·rw [if_pos h0, if_neg (by omega)]
  exact ⟨rfl, rfl⟩
 ·rw [if_neg h0]
  by_cases h1 : c > 1048576
  ·rw [if_pos h1, if_neg (by omega)]
   exact ⟨rfl, rfl⟩
  ·rw [if_neg h1, if_pos (by omega)]
   exact ⟨rfl, rfl⟩
theorem check_ok {c : Int} (h : okC c) : check_i2c c = 0 := if_pos h
theorem check_no {c : Int} (h : ¬ okC c) : check_i2c c = 2 := if_neg h
theorem evValid_eq (k : Nat) (x : EvT) : event_Valid.f (k + 2) x.f0 x.f1 x.f2 x.f3 x.f4 x.f5 x.f6 = some (decide (validP x)) := by
 unfold event_Valid.f
 by_cases c1 : x.f0 < 1
 ·rw [decide_eq_false (p := validP x) (fun h => by obtain ⟨⟨a1, a2⟩, ⟨b1, b2, b3⟩, ⟨d1, d2⟩, ⟨e1, e2⟩, g, ⟨i1, i2⟩⟩ := h; omega)]
  rw [if_pos c1]
  rfl
 ·rw [if_neg c1]
  by_cases c2 : x.f0 > 8
  ·rw [decide_eq_false (p := validP x) (fun h => by obtain ⟨⟨a1, a2⟩, ⟨b1, b2, b3⟩, ⟨d1, d2⟩, ⟨e1, e2⟩, g, ⟨i1, i2⟩⟩ := h; omega)]
   rw [decide_eq_true c2]
   rfl
  ·rw [decide_eq_false c2]
   simp only [event_Valid.j0, if_neg Bool.false_ne_true]
   by_cases c3 : x.f1 < 0
   ·rw [decide_eq_false (p := validP x) (fun h => by obtain ⟨⟨a1, a2⟩, ⟨b1, b2, b3⟩, ⟨d1, d2⟩, ⟨e1, e2⟩, g, ⟨i1, i2⟩⟩ := h; omega)]
    rw [if_pos c3]
    rfl
   ·rw [if_neg c3]
    by_cases c4 : x.f1 > x.f2
    ·rw [decide_eq_false (p := validP x) (fun h => by obtain ⟨⟨a1, a2⟩, ⟨b1, b2, b3⟩, ⟨d1, d2⟩, ⟨e1, e2⟩, g, ⟨i1, i2⟩⟩ := h; omega)]
     rw [if_pos c4]
     rfl
    ·rw [if_neg c4]
     by_cases c5 : x.f2 > 1099511627776
     ·rw [decide_eq_false (p := validP x) (fun h => by obtain ⟨⟨a1, a2⟩, ⟨b1, b2, b3⟩, ⟨d1, d2⟩, ⟨e1, e2⟩, g, ⟨i1, i2⟩⟩ := h; omega)]
      rw [decide_eq_true c5]
      rfl
     ·rw [decide_eq_false c5]
      simp only [event_Valid.j1, if_neg Bool.false_ne_true]
      by_cases c6 : x.f3 < -9007199254740992
      ·rw [decide_eq_false (p := validP x) (fun h => by obtain ⟨⟨a1, a2⟩, ⟨b1, b2, b3⟩, ⟨d1, d2⟩, ⟨e1, e2⟩, g, ⟨i1, i2⟩⟩ := h; omega)]
       rw [if_pos c6]
      ·rw [if_neg c6]
       by_cases c7 : x.f3 > 9007199254740992
       ·rw [decide_eq_false (p := validP x) (fun h => by obtain ⟨⟨a1, a2⟩, ⟨b1, b2, b3⟩, ⟨d1, d2⟩, ⟨e1, e2⟩, g, ⟨i1, i2⟩⟩ := h; omega)]
        rw [if_pos c7]
       ·rw [if_neg c7]
        by_cases c8 : x.f4 < -9007199254740992
        ·rw [decide_eq_false (p := validP x) (fun h => by obtain ⟨⟨a1, a2⟩, ⟨b1, b2, b3⟩, ⟨d1, d2⟩, ⟨e1, e2⟩, g, ⟨i1, i2⟩⟩ := h; omega)]
         rw [if_pos c8]
        ·rw [if_neg c8]
         by_cases c9 : x.f4 > 9007199254740992
         ·rw [decide_eq_false (p := validP x) (fun h => by obtain ⟨⟨a1, a2⟩, ⟨b1, b2, b3⟩, ⟨d1, d2⟩, ⟨e1, e2⟩, g, ⟨i1, i2⟩⟩ := h; omega)]
          rw [if_pos c9]
         ·rw [if_neg c9]
          by_cases c10 : (x.f5.size : Int) > 4096
          ·rw [decide_eq_false (p := validP x) (fun h => by obtain ⟨⟨a1, a2⟩, ⟨b1, b2, b3⟩, ⟨d1, d2⟩, ⟨e1, e2⟩, g, ⟨i1, i2⟩⟩ := h; omega)]
           rw [if_neg (by omega)]
          ·rw [if_pos (by omega)]
           by_cases c11 : x.f6 < 0
           ·rw [decide_eq_false (p := validP x) (fun h => by obtain ⟨⟨a1, a2⟩, ⟨b1, b2, b3⟩, ⟨d1, d2⟩, ⟨e1, e2⟩, g, ⟨i1, i2⟩⟩ := h; omega)]
            rw [if_neg (by omega)]
           ·rw [if_pos (by omega)]
            by_cases c12 : x.f6 > 12
            ·rw [decide_eq_false (p := validP x) (fun h => by obtain ⟨⟨a1, a2⟩, ⟨b1, b2, b3⟩, ⟨d1, d2⟩, ⟨e1, e2⟩, g, ⟨i1, i2⟩⟩ := h; omega)]
             rw [decide_eq_false (by omega)]
            ·rw [decide_eq_true (by omega), decide_eq_true (show validP x from ⟨by omega, by omega, by omega, by omega, by omega, by omega⟩)]
theorem refValid_eq (x : EvT) : r07_Valid.f x.f0 x.f1 x.f2 x.f3 x.f4 x.f5 x.f6 = some (decide (validP x)) := by
 unfold r07_Valid.f
 by_cases c1 : x.f0 < 1
 ·rw [decide_eq_false (p := validP x) (fun h => by obtain ⟨⟨a1, a2⟩, ⟨b1, b2, b3⟩, ⟨d1, d2⟩, ⟨e1, e2⟩, g, ⟨i1, i2⟩⟩ := h; omega)]
  rw [if_pos c1]
 ·rw [if_neg c1]
  by_cases c2 : x.f0 > 8
  ·rw [decide_eq_false (p := validP x) (fun h => by obtain ⟨⟨a1, a2⟩, ⟨b1, b2, b3⟩, ⟨d1, d2⟩, ⟨e1, e2⟩, g, ⟨i1, i2⟩⟩ := h; omega)]
   rw [if_pos c2]
  ·rw [if_neg c2]
   by_cases c3 : x.f1 < 0
   ·rw [decide_eq_false (p := validP x) (fun h => by obtain ⟨⟨a1, a2⟩, ⟨b1, b2, b3⟩, ⟨d1, d2⟩, ⟨e1, e2⟩, g, ⟨i1, i2⟩⟩ := h; omega)]
    rw [if_pos c3]
   ·rw [if_neg c3]
    by_cases c4 : x.f1 > x.f2
    ·rw [decide_eq_false (p := validP x) (fun h => by obtain ⟨⟨a1, a2⟩, ⟨b1, b2, b3⟩, ⟨d1, d2⟩, ⟨e1, e2⟩, g, ⟨i1, i2⟩⟩ := h; omega)]
     rw [if_pos c4]
    ·rw [if_neg c4]
     by_cases c5 : x.f2 > 1099511627776
     ·rw [decide_eq_false (p := validP x) (fun h => by obtain ⟨⟨a1, a2⟩, ⟨b1, b2, b3⟩, ⟨d1, d2⟩, ⟨e1, e2⟩, g, ⟨i1, i2⟩⟩ := h; omega)]
      rw [if_pos c5]
     ·rw [if_neg c5]
      by_cases c10 : (x.f5.size : Int) > 4096
      ·rw [decide_eq_false (p := validP x) (fun h => by obtain ⟨⟨a1, a2⟩, ⟨b1, b2, b3⟩, ⟨d1, d2⟩, ⟨e1, e2⟩, g, ⟨i1, i2⟩⟩ := h; omega)]
       rw [if_pos c10]
      ·rw [if_neg c10]
       by_cases c11 : x.f6 < 0
       ·rw [decide_eq_false (p := validP x) (fun h => by obtain ⟨⟨a1, a2⟩, ⟨b1, b2, b3⟩, ⟨d1, d2⟩, ⟨e1, e2⟩, g, ⟨i1, i2⟩⟩ := h; omega)]
        rw [if_pos c11]
       ·rw [if_neg c11]
        by_cases c12 : x.f6 > 12
        ·rw [decide_eq_false (p := validP x) (fun h => by obtain ⟨⟨a1, a2⟩, ⟨b1, b2, b3⟩, ⟨d1, d2⟩, ⟨e1, e2⟩, g, ⟨i1, i2⟩⟩ := h; omega)]
         rw [if_pos c12]
        ·rw [if_neg c12]
         by_cases c6 : x.f3 < -9007199254740992
         ·rw [decide_eq_false (p := validP x) (fun h => by obtain ⟨⟨a1, a2⟩, ⟨b1, b2, b3⟩, ⟨d1, d2⟩, ⟨e1, e2⟩, g, ⟨i1, i2⟩⟩ := h; omega)]
          rw [if_neg (by omega)]
         ·rw [if_pos (by omega)]
          by_cases c7 : x.f3 > 9007199254740992
          ·rw [decide_eq_false (p := validP x) (fun h => by obtain ⟨⟨a1, a2⟩, ⟨b1, b2, b3⟩, ⟨d1, d2⟩, ⟨e1, e2⟩, g, ⟨i1, i2⟩⟩ := h; omega)]
           rw [if_neg (by omega)]
          ·rw [if_pos (by omega)]
           by_cases c8 : x.f4 < -9007199254740992
           ·rw [decide_eq_false (p := validP x) (fun h => by obtain ⟨⟨a1, a2⟩, ⟨b1, b2, b3⟩, ⟨d1, d2⟩, ⟨e1, e2⟩, g, ⟨i1, i2⟩⟩ := h; omega)]
            rw [if_neg (by omega)]
           ·rw [if_pos (by omega)]
            by_cases c9 : x.f4 > 9007199254740992
            ·rw [decide_eq_false (p := validP x) (fun h => by obtain ⟨⟨a1, a2⟩, ⟨b1, b2, b3⟩, ⟨d1, d2⟩, ⟨e1, e2⟩, g, ⟨i1, i2⟩⟩ := h; omega)]
             rw [decide_eq_false (by omega)]
            ·rw [decide_eq_true (by omega), decide_eq_true (show validP x from ⟨by omega, by omega, by omega, by omega, by omega, by omega⟩)]
theorem acc_tail (s : StT) (x : EvT) : (if decide (validP x) = true then (if x.f0 = 1 then (if x.f6 = 0 then (if x.f1 ≥ x.f2 then (some false) else (if x.f3 < 0 then (some false) else (if x.f3 > 3 then (some false) else (if s.f0 = 0 then (some true) else (some (x.f1 == s.f1)))))) else (some false)) else (some false)) else (some false)) = some (decide (accP s x)) := by
 by_cases hv : validP x
 ·rw [if_pos (decide_eq_true hv)]
  by_cases h1 : x.f0 = 1
  ·rw [if_pos h1]
   by_cases h2 : x.f6 = 0
   ·rw [if_pos h2]
    by_cases h3 : x.f1 ≥ x.f2
    ·rw [if_pos h3, decide_eq_false (fun h => by have := h.2.2.2.1; omega)]
    ·rw [if_neg h3]
     by_cases h4 : x.f3 < 0
     ·rw [if_pos h4, decide_eq_false (fun h => by have := h.2.2.2.2.1; omega)]
     ·rw [if_neg h4]
      by_cases h5 : x.f3 > 3
      ·rw [if_pos h5, decide_eq_false (fun h => by have := h.2.2.2.2.1; omega)]
      ·rw [if_neg h5]
       by_cases h6 : s.f0 = 0
       ·rw [if_pos h6, decide_eq_true (show accP s x from ⟨hv, h1, h2, by omega, by omega, .inl h6⟩)]
       ·rw [if_neg h6]
        by_cases h7 : x.f1 = s.f1
        ·rw [decide_eq_true (show accP s x from ⟨hv, h1, h2, by omega, by omega, .inr h7⟩), beq_iff_eq.mpr h7]
        ·rw [decide_eq_false (fun h : accP s x => by have := h.2.2.2.2.2; omega), beq_eq_false_iff_ne.mpr h7]
   ·rw [if_neg h2, decide_eq_false (fun h => h2 h.2.2.1)]
  ·rw [if_neg h1, decide_eq_false (fun h => h1 h.2.1)]
 ·rw [if_neg (by simp [hv]), decide_eq_false (fun h => hv h.1)]
theorem accepted_eq (k : Nat) (s : StT) (x : EvT) : i2c_accepted.f (k + 2) s.f0 s.f1 s.f2 s.f3 s.f4 s.f5 s.f6 s.f7 x.f0 x.f1 x.f2 x.f3 x.f4 x.f5 x.f6 = some (decide (accP s x)) := by
 unfold i2c_accepted.f
 rw [evValid_eq, Option.bind_some]
 exact acc_tail s x
theorem accepts_eq (s : StT) (x : EvT) : r23_accepts.f s.f0 s.f1 s.f2 s.f3 s.f4 s.f5 s.f6 s.f7 x.f0 x.f1 x.f2 x.f3 x.f4 x.f5 x.f6 = some (decide (accP s x)) := by
 unfold r23_accepts.f
 rw [refValid_eq, Option.bind_some]
 exact acc_tail s x
theorem four {a : Int} (h : 0 ≤ a ∧ a ≤ 3) : a = 0 ∨ a = 1 ∨ a = 2 ∨ a = 3 := by omega
theorem change_eq (k : Nat) {a b : Int} (ha : 0 ≤ a ∧ a ≤ 3) (hb : 0 ≤ b ∧ b ≤ 3) : i2c_change.f (k + 2) a b = some (chgV a b) := by
 rcases four ha with rfl | rfl | rfl | rfl <;> rcases four hb with rfl | rfl | rfl | rfl <;> rfl
def SegI (s : StT) : Prop := (0 ≤ s.f3 ∧ s.f3 ≤ 8) ∧ (0 ≤ s.f4 ∧ s.f4 < 2 ^ s.f3.toNat) ∧ (0 ≤ s.f5 ∧ s.f5 ≤ 7) ∧ s.f7.size ≤ 4097
def Inv (s : StT) : Prop := (0 ≤ s.f6 ∧ s.f6 ≤ 3) ∧ (s.f0 = 2 → SegI s)
theorem pow8 {n : Int} (h : 0 ≤ n ∧ n ≤ 8) {a : Int} (ha : a < 2 ^ n.toNat) : a ≤ 255 := by
 have h1 : n.toNat ≤ 8 := by omega
 have h2 : (2 : Nat) ^ n.toNat ≤ 2 ^ 8 := Nat.pow_le_pow_right (by decide) h1
 have h3 : ((2 : Int) ^ n.toNat) = ((2 ^ n.toNat : Nat) : Int) := by push_cast; rfl
 omega
theorem auxV_bound {a v : Int} (d : Nat) (h : 0 ≤ a ∧ a ≤ 7) : 0 ≤ auxV a v d ∧ auxV a v d ≤ 7 := by
 unfold auxV
 split <;> split <;> split <;> omega
theorem bitV_segI {s : StT} (h : SegI s) {v : Int} (hv : v = 0 ∨ v = 1) : SegI (bitV s v) := by
 obtain ⟨h3, h4, h5, h7⟩ := h
 unfold bitV
 by_cases c : s.f3 < 8
 ·rw [if_pos c]
  refine ⟨⟨by show 0 ≤ s.f3 + 1; omega, by show s.f3 + 1 ≤ 8; omega⟩, ⟨by show 0 ≤ 2 * s.f4 + v; omega, ?_⟩, h5, h7⟩
  show 2 * s.f4 + v < 2 ^ (s.f3 + 1).toNat
  rw [show (s.f3 + 1).toNat = s.f3.toNat + 1 by omega, Int.pow_succ]
  omega
 ·rw [if_neg c]
  refine ⟨⟨Int.le_refl 0, (by decide : (0 : Int) ≤ 8)⟩, ⟨Int.le_refl 0, (by decide : (0 : Int) < 2 ^ (0 : Int).toNat)⟩, auxV_bound _ h5, ?_⟩
  show (if s.f7.size ≤ 4096 then s.f7 ++ (⟨#[UInt8.ofNat s.f4.toNat]⟩ : ByteArray) else s.f7).size ≤ 4097
  split
  ·rw [ByteArray.size_append]
   show s.f7.size + 1 ≤ 4097
   omega
  ·exact h7
theorem goV_inv {s : StT} (h : Inv s) {a b v : Int} (hv : 0 ≤ v ∧ v ≤ 3) : Inv (goV s a b v).1 := by
 unfold goV
 by_cases c0 : s.f0 = 0
 ·rw [if_pos c0]
  exact ⟨hv, fun h => absurd h (by decide : ¬ (1 : Int) = 2)⟩
 ·rw [if_neg c0]
  by_cases c1 : chgV s.f6 v = 1
  ·rw [if_pos c1]
   exact ⟨hv, fun _ => ⟨⟨Int.le_refl 0, (by decide : (0 : Int) ≤ 8)⟩, ⟨Int.le_refl 0, (by decide : (0 : Int) < 2 ^ (0 : Int).toNat)⟩, ⟨Int.le_refl 0, (by decide : (0 : Int) ≤ 7)⟩, (by decide : (0 : Nat) ≤ 4097)⟩⟩
  ·rw [if_neg c1]
   by_cases c2 : chgV s.f6 v = 2
   ·rw [if_pos c2]
    exact ⟨hv, fun h => absurd h (by decide : ¬ (1 : Int) = 2)⟩
   ·rw [if_neg c2]
    by_cases c3 : chgV s.f6 v = 3 ∧ s.f0 = 2
    ·rw [if_pos c3]
     have hs : SegI ⟨s.f0, b, s.f2, s.f3, s.f4, s.f5, v, s.f7⟩ := h.2 c3.2
     obtain ⟨e1, e2, e3⟩ := bitV_prev ⟨s.f0, b, s.f2, s.f3, s.f4, s.f5, v, s.f7⟩ (v / 2)
     exact ⟨by rw [e1]; exact hv, fun _ => bitV_segI hs (by omega)⟩
    ·rw [if_neg c3]
     exact ⟨hv, h.2⟩
theorem eight {a : Int} (h : 0 ≤ a ∧ a ≤ 7) : a = 0 ∨ a = 1 ∨ a = 2 ∨ a = 3 ∨ a = 4 ∨ a = 5 ∨ a = 6 ∨ a = 7 := by omega
def tp (s : StT) : TupT := (s.f0, s.f1, s.f2, s.f3, s.f4, s.f5, s.f6, s.f7)
theorem bit_eq (k : Nat) {s : StT} (h : SegI s) {v : Int} (hv : v = 0 ∨ v = 1) : i2c_bit.f (k + 1) s.f0 s.f1 s.f2 s.f3 s.f4 s.f5 s.f6 s.f7 v = some (tp (bitV s v)) := by
 have hp := pow8 h.1 h.2.1.2
 obtain ⟨h3, h4, h5, h7⟩ := h
 unfold i2c_bit.f bitV tp
 rw [w64 (x := s.f3 + 1) (by omega) (by omega)]
 by_cases c : s.f3 < 8
 ·rw [if_pos (by omega), if_pos c, w64 (x := 2 * s.f4) (by omega) (by omega), w64 (by omega) (by omega)]
 ·have e8 : s.f3 = 8 := by omega
  have e4 : s.f4 % 256 = s.f4 := by omega
  have es : strOfNums [s.f4] = ⟨#[UInt8.ofNat s.f4.toNat]⟩ := rfl
  rw [if_neg (by omega), if_neg c]
  simp only [i2c_bit.j0, Option.bind_some, e4, es]
  have hz : s.f7.size ≤ 4096 → s.f7.size + (⟨#[UInt8.ofNat s.f4.toNat]⟩ : ByteArray).size ≤ 9223372036854775807 := fun hh => by
   show s.f7.size + 1 ≤ _
   omega
  by_cases cs : s.f7.size ≤ 4096
  ·have cs' : (s.f7.size : Int) ≤ 4096 := by omega
   have hz' := hz cs
   simp only [cs, cs', hz', if_true, auxV]
   rcases eight h5 with e | e | e | e | e | e | e | e <;> rw [e] <;> rcases hv with rfl | rfl <;> rfl
  ·have cs' : ¬ (s.f7.size : Int) ≤ 4096 := by omega
   simp only [cs, cs', if_false, auxV]
   rcases eight h5 with e | e | e | e | e | e | e | e <;> rw [e] <;> rcases hv with rfl | rfl <;> rfl
theorem toList_nil (d : ByteArray) : d.toList = ([] : List UInt8) ↔ d.size = 0 := (toList_eq d).2.1
theorem bt_get (d : ByteArray) (h : 0 < d.size) : bt d 0 = ((d.get! 0).toNat : Int) := by
 unfold bt
 rw [dif_pos (show (0 : Int).toNat < d.size from h)]
 have : (d.get! 0) = d[(0 : Int).toNat]'h := by
  show d.data[0]! = d.data[0]'h
  exact getElem!_pos d.data 0 h
 rw [this]
theorem u8_and1 {a : Int} (h : 0 ≤ a ∧ a ≤ 255) : Go.bits .and .u8 a 1 = a % 2 := by
 rw [u8_and a 1 h.1 (by omega) (by decide) (by decide), show (1 : Int).toNat = 1 from rfl, nat_mask1]
 omega
theorem fault_eq (k : Nat) {s : StT} (h : 0 ≤ s.f5 ∧ s.f5 ≤ 7) : i2c_fault.f (k + 1) s.f0 s.f1 s.f2 s.f3 s.f4 s.f5 s.f6 s.f7 = some (fltV s) := by
 have key : ∀ b : Bool, (b = true ↔ (0 < s.f7.size ∧ (s.f7.get! 0).toNat % 2 = 1)) → i2c_fault.j0 (k + 1) b s.f0 s.f1 s.f2 s.f3 s.f4 s.f5 s.f6 s.f7 = some (fltV s) := by
  intro b hb
  simp only [i2c_fault.j0]
  unfold fltV
  have e1 : ¬ ((s.f7.size : Int) > 1) ↔ ¬ (s.f7.size > 1) := by omega
  by_cases c3 : s.f3 > 1
  ·simp only [if_pos c3]
   rcases eight h with e | e | e | e | e | e | e | e <;> rw [e] <;> rfl
  ·simp only [if_neg c3]
   by_cases c7 : s.f7.size > 1
   ·have c7' : (s.f7.size : Int) > 1 := by omega
    have c0 : 0 < s.f7.size := by omega
    simp only [if_pos c7', c7, c0, true_and] at hb ⊢
    by_cases cb : (s.f7.get! 0).toNat % 2 = 1
    ·simp only [hb.mpr cb, cb, if_true, not_true_eq_false, and_false, if_false]
     rcases eight h with e | e | e | e | e | e | e | e <;> rw [e] <;> rfl
    ·have : b = false := by cases b with | false => rfl | true => exact absurd (hb.mp rfl) cb
     simp only [this, cb, not_false_eq_true, and_true]
     rcases eight h with e | e | e | e | e | e | e | e <;> rw [e] <;> rfl
   ·have c7' : ¬ (s.f7.size : Int) > 1 := by omega
    simp only [if_neg c7', c7, false_and, not_false_eq_true, and_true, ite_self]
    rcases eight h with e | e | e | e | e | e | e | e <;> rw [e] <;> rfl
 unfold i2c_fault.f
 by_cases c : s.f7.size = 0
 ·rw [if_pos ((toList_nil _).mpr c)]
  exact key false ⟨fun hh => absurd hh (by decide), fun hh => by omega⟩
 ·rw [if_neg (fun hh => c ((toList_nil _).mp hh)), if_pos (by omega)]
  refine key _ ?_
  rw [u8_and1 (bt_range _ _), bt_get _ (by omega)]
  simp only [beq_iff_eq]
  omega
def etup (x : EvT) : Int × Int × Int × Int × Int × ByteArray × Int := (x.f0, x.f1, x.f2, x.f3, x.f4, x.f5, x.f6)
theorem frame_eq (k : Nat) {s : StT} (h : 0 ≤ s.f5 ∧ s.f5 ≤ 7) (en stop : Int) : i2c_frame.f (k + 1) s.f0 s.f1 s.f2 s.f3 s.f4 s.f5 s.f6 s.f7 en stop = some (etup (frmV s en stop)) := by
 unfold i2c_frame.f frmV etup
 rw [fault_eq k h, Option.bind_some]
 by_cases c : s.f7.size = 0
 ·have e : s.f7 = ⟨#[]⟩ := by
   apply ByteArray.ext
   exact Array.toList_inj.mp (List.length_eq_zero_iff.mp c)
  rw [if_pos ((toList_nil _).mpr c), if_pos c, e]
  rfl
 ·have hb := (s.f7.get! 0).toNat_lt
  rw [if_neg (fun hh => c ((toList_nil _).mp hh)), if_pos (by omega), if_pos (by omega), if_neg c, bt_get _ (by omega), w64 (by omega) (by omega)]
theorem step_ev {c : Int} {s : StT} (hs : Inv s) (x : EvT) : ∀ k, i2c_Step.f (k + 5) c s.f0 s.f1 s.f2 s.f3 s.f4 s.f5 s.f6 s.f7 x.f0 x.f1 x.f2 x.f3 x.f4 x.f5 x.f6 = some (pk (stepV c s x).1 (stepV c s x).2) := by
 intro k
 unfold i2c_Step.f
 rw [(check_eq c).1, Option.bind_some]
 by_cases hc : okC c
 ·rw [check_ok hc, if_pos rfl, accepted_eq, Option.bind_some]
  unfold stepV
  by_cases ha : accP s x
  ·rw [if_pos ⟨hc, ha⟩]
   have hd : (!decide (accP s x)) = false := by simp [ha]
   rw [hd]
   simp only [i2c_Step.j0, if_neg Bool.false_ne_true]
   obtain ⟨hv, h1, h6, h12, h3, h0⟩ := ha
   unfold goV pk
   by_cases c0 : s.f0 = 0
   ·simp only [if_pos c0]
   ·simp only [if_neg c0]
    rw [change_eq (k + 2) hs.1 h3, Option.bind_some]
    have hfr : ∀ stop, s.f0 = 2 → i2c_frame.f (k + 3) s.f0 x.f2 s.f2 s.f3 s.f4 s.f5 x.f3 s.f7 x.f1 stop = some (etup (frmV s x.f1 stop)) := fun stop h2 => frame_eq (k + 2) (s := ⟨s.f0, x.f2, s.f2, s.f3, s.f4, s.f5, x.f3, s.f7⟩) (hs.2 h2).2.2.1 x.f1 stop
    by_cases c1 : chgV s.f6 x.f3 = 1
    ·simp only [if_pos c1, i2c_Step.j1]
     by_cases c2 : s.f0 = 2
     ·simp only [if_pos c2]
      rw [hfr 0 c2, Option.bind_some]
      rfl
     ·simp only [if_neg c2]
    ·simp only [if_neg c1]
     by_cases c1' : chgV s.f6 x.f3 = 2
     ·simp only [if_pos c1', i2c_Step.j1]
      by_cases c2 : s.f0 = 2
      ·simp only [if_pos c2]
       rw [hfr 1 c2, Option.bind_some]
       rfl
      ·simp only [if_neg c2]
     ·simp only [if_neg c1']
      by_cases c3 : chgV s.f6 x.f3 = 3
      ·by_cases c2 : s.f0 = 2
       ·simp only [if_pos c3, if_pos c2, if_pos (And.intro c3 c2)]
        have eb : Go.bits .and .i64 (x.f3 / 2) 1 = x.f3 / 2 := by
         rcases four h3 with e | e | e | e <;> rw [e] <;> rfl
        have hb := bit_eq (k + 3) (s := ⟨s.f0, x.f2, s.f2, s.f3, s.f4, s.f5, x.f3, s.f7⟩) (hs.2 c2) (v := x.f3 / 2) (by omega)
        rw [eb]
        rw [hb, Option.bind_some]
        rfl
       ·simp only [if_pos c3, if_neg c2, if_neg (fun h : chgV s.f6 x.f3 = 3 ∧ s.f0 = 2 => c2 h.2)]
      ·simp only [if_neg c3, if_neg (fun h : chgV s.f6 x.f3 = 3 ∧ s.f0 = 2 => c3 h.1)]
  ·rw [if_neg (fun h => ha h.2)]
   have hd : (!decide (accP s x)) = true := by simp [ha]
   rw [hd]
   rfl
 ·rw [check_no hc, if_neg (by decide)]
  unfold stepV
  rw [if_neg (fun h => hc h.1)]
  rfl
theorem ev_step {α : Type} {g f : Nat → Option α} {r : α} (n : Nat) (h : ∀ k, n ≤ k → g (k + 1) = f k) (hf : Ev f r) : Ev g r := by
 obtain ⟨K, hK⟩ := hf
 refine ⟨max K n + 1, fun k hk => ?_⟩
 have e : k = (k - 1) + 1 := by omega
 rw [e, h _ (by omega)]
 exact hK _ (by omega)
theorem ev_same {α : Type} {g f : Nat → Option α} {r : α} (n : Nat) (h : ∀ k, n ≤ k → g k = f k) (hf : Ev f r) : Ev g r := by
 obtain ⟨K, hK⟩ := hf
 exact ⟨max K n, fun k hk => by rw [h _ (by omega)]; exact hK _ (by omega)⟩
theorem step_at {c : Int} {s : StT} (hs : Inv s) (x : EvT) {k : Nat} (hk : 5 ≤ k) : i2c_Step.f k c s.f0 s.f1 s.f2 s.f3 s.f4 s.f5 s.f6 s.f7 x.f0 x.f1 x.f2 x.f3 x.f4 x.f5 x.f6 = some (pk (stepV c s x).1 (stepV c s x).2) := by
 have h := step_ev (c := c) hs x (k - 5)
 rwa [show k - 5 + 5 = k by omega] at h
theorem rdE_mid (pre post : List EvT) (x : EvT) : rd_T27 (pre ++ x :: post) (pre.length : Int) = x := by simp [rd_T27, List.getD]
theorem rdR_mid (pre post : List RunT) (x : RunT) : rd_T53 (pre ++ x :: post) (pre.length : Int) = x := by simp [rd_T53, List.getD]
theorem rdI_mid (pre post : List ItT) (x : ItT) : rd_T49 (pre ++ x :: post) (pre.length : Int) = x := by simp [rd_T49, List.getD]
theorem midl_lt {α : Type} (pre post : List α) (x : α) : (pre.length : Int) < ((pre ++ x :: post).length : Int) := by
 simp only [List.length_append, List.length_cons]
 omega
def runV (c : Int) : StT → List EvT → StT × List EvT
 | s, [] => (s, [])
 | s, x :: l => ((runV c (stepV c s x).1 l).1, (stepV c s x).2 ++ (runV c (stepV c s x).1 l).2)
def endV (c : Int) (s : StT) : List EvT := if okC c ∧ s.f0 = 2 then [⟨5, s.f2, s.f1, 0, 0, ⟨#[]⟩, 7⟩] else []
def z0 : StT := ⟨0, 0, 0, 0, 0, 0, 0, ⟨#[]⟩⟩
def decV (c : Int) (l : List EvT) : List EvT := (runV c z0 l).2 ++ endV c (runV c z0 l).1
theorem goV_len (s : StT) (a b v : Int) : (goV s a b v).2.length ≤ 1 := by
 unfold goV
 repeat' split
 all_goals simp
theorem stepV_len (c : Int) (s : StT) (x : EvT) : (stepV c s x).2.length ≤ 1 := by
 unfold stepV
 split
 ·exact goV_len ..
 ·exact Nat.zero_le _
theorem stepV_inv {c : Int} {s : StT} (h : Inv s) (x : EvT) : Inv (stepV c s x).1 := by
 unfold stepV
 split
 ·rename_i ha
  exact goV_inv h ha.2.2.2.2.2.1
 ·exact h
theorem runV_len {c : Int} : ∀ (l : List EvT) (s : StT), (runV c s l).2.length ≤ l.length
 | [], s => Nat.le_refl _
 | x :: l, s => by
  have h1 := stepV_len c s x
  have h2 := runV_len (c := c) l (stepV c s x).1
  simp only [runV, List.length_append, List.length_cons]
  omega
theorem endV_len (c : Int) (s : StT) : (endV c s).length ≤ 1 := by
 unfold endV
 split
 ·exact Nat.le_refl _
 ·exact Nat.zero_le _
theorem decV_len (c : Int) (l : List EvT) : (decV c l).length ≤ l.length + 1 := by
 have h1 := runV_len (c := c) l z0
 have h2 := endV_len c (runV c z0 l).1
 unfold decV
 rw [List.length_append]
 omega
theorem inv_z0 : Inv z0 := ⟨⟨Int.le_refl 0, (by decide : (0 : Int) ≤ 3)⟩, fun h => absurd h (by decide : ¬ (0 : Int) = 2)⟩
theorem end_eq (c : Int) (s : StT) : i2c_End.f c s.f0 s.f1 s.f2 s.f3 s.f4 s.f5 s.f6 s.f7 = some (endV c s) := by
 unfold i2c_End.f endV
 rw [(check_eq c).1, Option.bind_some]
 by_cases h : okC c
 ·rw [check_ok h, if_pos rfl]
  by_cases h2 : s.f0 = 2
  ·rw [if_pos h2, if_pos ⟨h, h2⟩]
  ·rw [if_neg h2, if_neg (fun hh => h2 hh.2)]
 ·rw [check_no h, if_neg (by decide), if_neg (fun hh => h hh.1)]
theorem dec_l0 {c : Int} : ∀ (post pre out : List EvT) (s : StT), Inv s → out.length + post.length + 1 < 2199023255552 → (pre ++ post).length ≤ 1099511627776 →
  Ev (fun k => i2c_Decode.l0 k out (pre ++ post) ((pre ++ post).length : Int) (pre.length : Int) c s.f0 s.f1 s.f2 s.f3 s.f4 s.f5 s.f6 s.f7) (out ++ ((runV c s post).2 ++ endV c (runV c s post).1))
 | [], pre, out, s, hs, ho, hl => by
  have hz := endV_len c s
  refine Ev.step (f := fun _ => some (out ++ endV c s)) (fun k => ?_) (Ev.now _)
  simp only [i2c_Decode.l0]
  rw [if_neg (by simp), end_eq, Option.bind_some, if_pos (by simp only [List.length_nil] at ho; omega)]
 | x :: post, pre, out, s, hs, ho, hl => by
  have hlt := midl_lt pre post x
  have hn : pre.length ≤ 9223372036854775806 := by
   simp only [List.length_append, List.length_cons] at hl
   omega
  have h1 := stepV_len c s x
  simp only [List.length_cons] at ho
  have ih := dec_l0 (c := c) post (pre ++ [x]) (out ++ (stepV c s x).2) (stepV c s x).1 (stepV_inv hs x) (by rw [List.length_append]; omega) (by simpa using hl)
  rw [← mid_snoc] at ih
  have er : out ++ (stepV c s x).2 ++ ((runV c (stepV c s x).1 post).2 ++ endV c (runV c (stepV c s x).1 post).1) = out ++ ((runV c s (x :: post)).2 ++ endV c (runV c s (x :: post)).1) := by
   simp only [runV, List.append_assoc]
  rw [er] at ih
  refine ev_step 5 (fun k hk => ?_) ih
  simp only [i2c_Decode.l0]
  rw [if_pos hlt, if_pos (by omega), if_pos hlt, rdE_mid, step_at hs x hk, Option.bind_some]
  refine (if_pos (show out.length + (stepV c s x).2.length < 2199023255552 by omega)).trans ?_
  rw [succ_mid _ _ hn]
  rfl
theorem dec_ev (c : Int) {l : List EvT} (hl : l.length ≤ 1099511627776) : Ev (fun k => i2c_Decode.f k c l) (decV c l) := by
 have h := dec_l0 (c := c) l [] [] z0 inv_z0 (by simp only [List.length_nil]; omega) (by simpa using hl)
 exact Ev.congr (fun k => rfl) h
theorem awake23_ev : Ev (fun k => lw_awake.f k) true := Ev.of (k := 100) (fun k => lw_awake.mono k) (by decide +kernel)
theorem awake23_then : Ev (fun k => (lw_awake.f k).bind fun t => some t) true := Ev.bind awake23_ev (Ev.now true)
def levV : Int → List RunT → List EvT
 | _, [] => []
 | t, r :: l => ⟨1, t, t + r.f1, r.f0, 0, ⟨#[]⟩, 0⟩ :: levV (t + r.f1) l
theorem levV_len : ∀ (l : List RunT) (t : Int), (levV t l).length = l.length
 | [], t => rfl
 | r :: l, t => by simp only [levV, List.length_cons, levV_len l]
theorem expect_l0 {c : Int} : ∀ (post pre : List RunT) (out : List EvT) (t : Int), 0 ≤ t → (∀ r ∈ post, 1 ≤ r.f1) → t + sumT post ≤ 1099511627776 → (pre ++ post).length ≤ 262144 → out.length + post.length ≤ 262144 →
  Ev (fun k => i2c_Expect.l0 k out t (pre ++ post) ((pre ++ post).length : Int) (pre.length : Int) c) (decV c (out ++ levV t post), 0)
 | [], pre, out, t, h0, hr, hs, hl, ho => by
  have hd := dec_ev c (l := out) (by simp only [List.length_nil] at ho; omega)
  have hd2 : Ev (fun k => (i2c_Decode.f k c out).bind fun t201 => (some (t201, (0 : Int)))) (decV c (out ++ levV t []), 0) := by
   rw [show out ++ levV t [] = out from List.append_nil out]
   exact Ev.bind hd (Ev.now _)
  refine Ev.step (fun k => ?_) hd2
  simp only [i2c_Expect.l0]
  rw [if_neg (by simp)]
 | r :: post, pre, out, t, h0, hr, hs, hl, ho => by
  have hlt := midl_lt pre post r
  have hn : pre.length ≤ 9223372036854775806 := by
   simp only [List.length_append, List.length_cons] at hl
   omega
  have h1 := hr r (.head _)
  have h2 : ∀ x ∈ post, 1 ≤ x.f1 := fun x hx => hr x (.tail _ hx)
  have h3 := sum_nonneg h2
  simp only [sumT] at hs
  simp only [List.length_cons] at ho
  have ih := expect_l0 (c := c) post (pre ++ [r]) (out ++ [⟨1, t, t + r.f1, r.f0, 0, ⟨#[]⟩, 0⟩]) (t + r.f1) (by omega) h2 (by omega) (by simpa using hl) (by simp only [List.length_append, List.length_cons, List.length_nil]; omega)
  rw [← mid_snoc] at ih
  have er : out ++ [(⟨1, t, t + r.f1, r.f0, 0, ⟨#[]⟩, 0⟩ : EvT)] ++ levV (t + r.f1) post = out ++ levV t (r :: post) := by simp [levV]
  rw [er] at ih
  refine Ev.step (fun k => ?_) ih
  simp only [i2c_Expect.l0]
  rw [if_pos hlt, if_pos (by omega), if_pos hlt, rdR_mid, if_pos (by omega), succ_mid _ _ hn, w64 (x := t + r.f1) (by omega) (by omega)]
theorem last_at (o : List RunT) (x : RunT) (h : o.length ≤ 9223372036854775806) : wrap64 (((o ++ [x]).length : Int) - 1) = (o.length : Int) := by
 rw [w64 (by simp only [List.length_append, List.length_cons, List.length_nil]; omega) (by simp only [List.length_append, List.length_cons, List.length_nil]; omega)]
 simp
theorem rd_last (o : List RunT) (x : RunT) : rd_T53 (o ++ [x]) (o.length : Int) = x := rdR_mid o [] x
theorem set_last (o : List RunT) (x y : RunT) : (o ++ [x]).set ((o.length : Int)).toNat y = o ++ [y] := by
 rw [Int.toNat_natCast]
 simp
def OkR (k : Nat) (o : List RunT) : Prop := o.length ≤ k ∧ sumT o ≤ 4194304 * (k : Int) ∧ ∀ y ∈ o, 1 ≤ y.f1 ∧ 0 ≤ y.f0 ∧ y.f0 ≤ 3
def RawOk (l : List RunT) : Prop := ∀ r ∈ l, r.f1 ≤ 4194304 ∧ 0 ≤ r.f0 ∧ r.f0 ≤ 3
def puts (o raw : List RunT) : List RunT := raw.foldl putP o
theorem puts_append (o p q : List RunT) : puts o (p ++ q) = puts (puts o p) q := List.foldl_append ..
theorem le_sumT : ∀ {o : List RunT}, (∀ y ∈ o, 1 ≤ y.f1 ∧ 0 ≤ y.f0 ∧ y.f0 ≤ 3) → ∀ y ∈ o, y.f1 ≤ sumT o
 | [], h, y, hy => absurd hy (by simp)
 | x :: o, h, y, hy => by
  have h2 : ∀ z ∈ o, 1 ≤ z.f1 ∧ 0 ≤ z.f0 ∧ z.f0 ≤ 3 := fun z hz => h z (.tail _ hz)
  have h3 := sum_nonneg (fun z hz => (h2 z hz).1)
  have h4 := h x (.head _)
  simp only [sumT]
  rcases List.mem_cons.mp hy with rfl | hy
  ·omega
  ·have := le_sumT h2 y hy
   omega
theorem putP_ok {k : Nat} {o : List RunT} (h : OkR k o) {r : RunT} (hr : r.f1 ≤ 4194304 ∧ 0 ≤ r.f0 ∧ r.f0 ≤ 3) : OkR (k + 1) (putP o r) := by
 obtain ⟨h1, h2, h3⟩ := h
 unfold putP
 by_cases c : r.f1 < 1
 ·rw [if_pos c]
  exact ⟨by omega, by push_cast; omega, h3⟩
 ·rw [if_neg c]
  refine ⟨?_, by rw [sumT_putR]; push_cast; omega, ?_⟩
  ·rcases snoc_cases o with rfl | ⟨q, y, rfl⟩
   ·simp [putR_nil]
   ·by_cases e : y.f0 = r.f0
    ·rw [← e, putR_same]
     simp only [List.length_append, List.length_cons, List.length_nil] at h1 ⊢
     omega
    ·rw [putR_new q y e]
     simp only [List.length_append, List.length_cons, List.length_nil] at h1 ⊢
     omega
  ·rcases snoc_cases o with rfl | ⟨q, y, rfl⟩
   ·intro z hz
    rw [putR_nil, List.mem_singleton] at hz
    rw [hz]
    exact ⟨by show 1 ≤ r.f1; omega, hr.2⟩
   ·by_cases e : y.f0 = r.f0
    ·rw [← e, putR_same]
     intro z hz
     rcases List.mem_append.mp hz with hz | hz
     ·exact h3 z (List.mem_append_left _ hz)
     ·rw [List.mem_singleton.mp hz]
      have := h3 y (by simp)
      exact ⟨by show 1 ≤ y.f1 + r.f1; omega, this.2⟩
    ·rw [putR_new q y e]
     intro z hz
     rcases List.mem_append.mp hz with hz | hz
     ·exact h3 z hz
     ·rw [List.mem_singleton.mp hz]
      exact ⟨by show 1 ≤ r.f1; omega, hr.2⟩
theorem puts_ok : ∀ (raw : List RunT) {k : Nat} {o : List RunT}, OkR k o → RawOk raw → OkR (k + raw.length) (puts o raw)
 | [], k, o, h, hr => h
 | r :: raw, k, o, h, hr => by
  have := puts_ok raw (putP_ok h (hr r (.head _))) (fun x hx => hr x (.tail _ hx))
  rw [show k + (r :: raw).length = k + 1 + raw.length by simp only [List.length_cons]; omega]
  exact this
theorem put_eq {k : Nat} {o : List RunT} (h : OkR k o) (hk : k ≤ 1000000000) {v n : Int} (hn : n ≤ 4194304) : line_put.f o v n = some (putP o ⟨v, n⟩) := by
 obtain ⟨h1, h2, h3⟩ := h
 unfold line_put.f putP
 by_cases c0 : n < 1
 ·rw [if_pos c0, if_pos c0]
 ·rw [if_neg c0, if_neg c0]
  rcases snoc_cases o with rfl | ⟨q, y, rfl⟩
  ·rw [if_neg (by simp), if_pos (by simp)]
   rfl
  ·have hy := le_sumT h3 y (by simp)
   have hy1 := h3 y (by simp)
   have hq : q.length ≤ 9223372036854775806 := by
    simp only [List.length_append, List.length_cons, List.length_nil] at h1
    omega
   have hlt : (q.length : Int) < ((q ++ [y]).length : Int) := midl_lt q [] y
   rw [last_at q y hq, rd_last, if_pos (by omega), if_pos (by omega), if_pos hlt]
   by_cases c : y.f0 = v
   ·rw [if_pos c, set_last, w64 (by omega) (by omega), ← c, putR_same]
   ·rw [if_neg c, if_pos (by omega), putR_new q y c]
theorem refput_eq {k : Nat} {o : List RunT} (h : OkR k o) (hk : k ≤ 1000000000) {a b n : Int} (ha : 0 ≤ a ∧ a ≤ 1) (hb : 0 ≤ b ∧ b ≤ 1) (hn : n ≤ 4194304) : r23_put.f o a b n = some (putP o ⟨a + 2 * b, n⟩) := by
 obtain ⟨h1, h2, h3⟩ := h
 unfold r23_put.f putP
 rw [w64 (x := 2 * b) (by omega) (by omega), w64 (x := a + 2 * b) (by omega) (by omega)]
 by_cases c0 : n < 1
 ·rw [if_pos (by omega), if_pos c0]
 ·rw [if_neg (by omega), if_neg c0]
  rcases snoc_cases o with rfl | ⟨q, y, rfl⟩
  ·rw [if_neg (by simp), if_pos (by simp)]
   rfl
  ·have hy := le_sumT h3 y (by simp)
   have hy1 := h3 y (by simp)
   have hq : q.length ≤ 9223372036854775806 := by
    simp only [List.length_append, List.length_cons, List.length_nil] at h1
    omega
   have hlt : (q.length : Int) < ((q ++ [y]).length : Int) := midl_lt q [] y
   rw [last_at q y hq, rd_last, if_pos (by omega), if_pos (by omega), if_pos hlt]
   by_cases c : y.f0 = a + 2 * b
   ·rw [if_pos c, set_last, w64 (by omega) (by omega), ← c, putR_same]
   ·rw [if_neg c, if_pos (by omega), putR_new q y c]
theorem r_ok {v n : Int} (hn : n ≤ 4194304) (hv : 0 ≤ v ∧ v ≤ 3) : (⟨v, n⟩ : RunT).f1 ≤ 4194304 ∧ 0 ≤ (⟨v, n⟩ : RunT).f0 ∧ (⟨v, n⟩ : RunT).f0 ≤ 3 := ⟨hn, hv⟩
def tOk (T : Int) : Prop := 1 ≤ T ∧ T ≤ 1048576
theorem rawBit_ok {T v : Int} (hT : tOk T) (hv : v = 0 ∨ v = 1) : RawOk (rawBit T v) := by
 intro r hr
 unfold tOk at hT
 simp only [rawBit, List.mem_cons, List.not_mem_nil, or_false] at hr
 rcases hr with rfl | rfl | rfl
 ·exact ⟨by show T ≤ _; omega, by show 0 ≤ 2 * v; omega, by show 2 * v ≤ 3; omega⟩
 ·exact ⟨by show 2 * T ≤ _; omega, by show 0 ≤ 2 * v + 1; omega, by show 2 * v + 1 ≤ 3; omega⟩
 ·exact ⟨by show T ≤ _; omega, by show 0 ≤ 2 * v; omega, by show 2 * v ≤ 3; omega⟩
theorem three_puts {k : Nat} {o : List RunT} {a b c : RunT} (h : OkR k o) (hr : RawOk [a, b, c]) : puts o [a, b, c] = putP (putP (putP o a) b) c ∧ OkR (k + 1) (putP o a) ∧ OkR (k + 2) (putP (putP o a) b) ∧ OkR (k + 3) (puts o [a, b, c]) :=
 ⟨rfl, putP_ok h (hr a (by simp)), putP_ok (putP_ok h (hr a (by simp))) (hr b (by simp)), puts_ok [a, b, c] h hr⟩
theorem bit_put {k : Nat} {o : List RunT} (h : OkR k o) (hk : k ≤ 900000000) {T v : Int} (hT : tOk T) (hv : v = 0 ∨ v = 1) : line_bit.f T o v = some (puts o (rawBit T v)) := by
 obtain ⟨e, h1, h2, h3⟩ := three_puts h (rawBit_ok hT hv)
 unfold tOk at hT
 unfold line_bit.f
 rw [w64 (x := v * 2) (by omega) (by omega), w64 (x := v * 2 + 1) (by omega) (by omega), w64 (x := 2 * T) (by omega) (by omega), Int.mul_comm v 2]
 rw [put_eq h (by omega) (by omega), Option.bind_some, put_eq h1 (by omega) (by omega), Option.bind_some, put_eq h2 (by omega) (by omega)]
 rfl
def bitsN (b : Int) : Nat → List Int
 | 0 => []
 | n + 1 => b / 2 ^ n % 2 :: bitsN b n
theorem bitsN_8 (b : Int) : bitsN b 8 = bits8 b := by
 simp [bitsN, bits8]
theorem rawBits_len (T : Int) : ∀ l : List Int, (rawBits T l).length = 3 * l.length
 | [] => rfl
 | v :: l => by
  simp only [rawBits, List.length_append, rawBits_len T l, List.length_cons]
  show 3 + _ = _
  omega
theorem rawBits_ok {T : Int} (hT : tOk T) : ∀ l : List Int, (∀ v ∈ l, v = 0 ∨ v = 1) → RawOk (rawBits T l)
 | [], h => fun r hr => absurd hr (by simp [rawBits])
 | v :: l, h => fun r hr => by
  rcases List.mem_append.mp hr with hr | hr
  ·exact rawBit_ok hT (h v (.head _)) r hr
  ·exact rawBits_ok hT l (fun x hx => h x (.tail _ hx)) r hr
theorem pow_pos' (n : Nat) : (0 : Int) < 2 ^ n := Int.pow_pos (by decide)
theorem div_range {b : Int} (hb : 0 ≤ b ∧ b ≤ 255) (n : Nat) : 0 ≤ b / 2 ^ n ∧ b / 2 ^ n ≤ 255 := by
 refine ⟨Int.ediv_nonneg hb.1 (Int.le_of_lt (pow_pos' n)), ?_⟩
 exact Int.le_trans (Int.ediv_le_self _ hb.1) hb.2
theorem bytes_g {T b ack : Int} (hT : tOk T) (hb : 0 ≤ b ∧ b ≤ 255) (ha : ack = 0 ∨ ack = 1) : ∀ (n k : Nat) (o : List RunT), OkR k o → k + 3 * n ≤ 800000000 → line_bytes.g T b ack n o = some (puts o (rawBits T (bitsN b n ++ [ack])))
 | 0, k, o, h, hk => by
  show line_bit.f T o ack = _
  rw [bit_put h (by omega) hT ha]
  simp [bitsN, rawBits]
 | n + 1, k, o, h, hk => by
  have hr := div_range hb n
  have hv : b / 2 ^ n % 2 = 0 ∨ b / 2 ^ n % 2 = 1 := by omega
  have h3 := puts_ok (rawBit T (b / 2 ^ n % 2)) h (rawBit_ok hT hv)
  show (line_bit.f T o (wrap64 (Go.bits .and .u8 (b / 2 ^ n) 1))).bind _ = _
  rw [u8_and1 hr, w64 (by omega) (by omega), bit_put h (by omega) hT hv, Option.bind_some]
  rw [bytes_g hT hb ha n _ _ h3 (by show k + 3 + 3 * n ≤ _; omega), ← puts_append]
  rfl
theorem bytes_put {k : Nat} {o : List RunT} (h : OkR k o) (hk : k ≤ 700000000) {T b ack : Int} (hT : tOk T) (hb : 0 ≤ b ∧ b ≤ 255) (ha : ack = 0 ∨ ack = 1) : line_bytes.f T o b ack = some (puts o (rawByte T b ack)) := by
 unfold line_bytes.f rawByte
 rw [bytes_g hT hb ha 8 k o h (by omega), bitsN_8]
theorem rawByte_ok {T b ack : Int} (hT : tOk T) (ha : ack = 0 ∨ ack = 1) : RawOk (rawByte T b ack) := by
 refine rawBits_ok hT _ (fun v hv => ?_)
 simp only [bits8, List.cons_append, List.nil_append, List.mem_cons, List.not_mem_nil, or_false] at hv
 rcases hv with rfl | rfl | rfl | rfl | rfl | rfl | rfl | rfl | rfl
 all_goals first | exact ha | omega
theorem rawByte_len (T b ack : Int) : (rawByte T b ack).length = 27 := by
 unfold rawByte
 rw [rawBits_len]
 rfl
theorem i64_and1 {a : Int} (h : 0 ≤ a ∧ a ≤ 255) : Go.bits .and .i64 a 1 = a % 2 := by
 have e1 : Go.bits .and .i64 a 1 = IntKind.i64.wrap (((BitVec.ofInt 64 a &&& BitVec.ofInt 64 1).toNat : Nat) : Int) := rfl
 have e3 : (BitVec.ofInt 64 a).toNat = a.toNat := by
  rw [BitVec.toNat_ofInt]
  omega
 rw [e1, BitVec.toNat_and, e3, show (BitVec.ofInt 64 1).toNat = 1 from rfl, nat_mask1, IntKind.wrap_i64]
 omega
theorem bt_byte (d : ByteArray) {i : Nat} (h : i < d.size) : bt d (i : Int) = ((d.toList[i]'(by rw [(toList_eq d).2.2]; exact h)).toNat : Int) := by
 unfold bt
 rw [dif_pos (by rw [Int.toNat_natCast]; exact h)]
 have e : d.toList = d.data.toList := by simp [ByteArray.toList_eq]
 simp only [Int.toNat_natCast, e]
 rfl
theorem drop_byte (d : ByteArray) {i : Nat} (h : i < d.size) : d.toList.drop i = d.toList[i]'(by rw [(toList_eq d).2.2]; exact h) :: d.toList.drop (i + 1) := List.drop_eq_getElem_cons _
theorem rawData_ok {T value : Int} (hT : tOk T) : ∀ l : List UInt8, RawOk (rawData T value l)
 | [] => fun r hr => absurd hr (by simp [rawData])
 | b :: l => fun r hr => by
  rcases List.mem_append.mp hr with hr | hr
  ·exact rawByte_ok hT (by split <;> simp) r hr
  ·exact rawData_ok hT l r hr
theorem rawData_len (T value : Int) : ∀ l : List UInt8, (rawData T value l).length = 27 * l.length
 | [] => rfl
 | b :: l => by
  simp only [rawData, List.length_append, rawByte_len, rawData_len T value l, List.length_cons]
  omega
theorem item_g {T value : Int} (hT : tOk T) (hv : 0 ≤ value ∧ value ≤ 255) (d : ByteArray) : ∀ (n i k : Nat) (o : List RunT), OkR k o → i + n = d.size → k + 27 * n ≤ 600000000 → line_item.g T value d n i o = some (puts o (rawData T value (d.toList.drop i)))
 | 0, i, k, o, h, hi, hk => by
  rw [List.drop_of_length_le (by rw [(toList_eq d).2.2]; omega)]
  rfl
 | n + 1, i, k, o, h, hi, hk => by
  have hlt : i < d.size := by omega
  have hb := bt_range d (i : Int)
  have hz : (d.toList.drop (i + 1) = []) ↔ n = 0 := by
   rw [List.drop_eq_nil_iff, (toList_eq d).2.2]
   omega
  have ea : (if n = 0 ∧ Go.bits .and .i64 value 1 = 1 then (1 : Int) else 0) = (if d.toList.drop (i + 1) = [] ∧ value % 2 = 1 then 1 else 0) := by
   rw [i64_and1 hv]
   simp only [hz]
  have h3 := puts_ok (rawByte T (bt d (i : Int)) (if d.toList.drop (i + 1) = [] ∧ value % 2 = 1 then 1 else 0)) h (rawByte_ok hT (by split <;> simp))
  rw [rawByte_len] at h3
  show (line_bytes.f T o (bt d (i : Int)) (if n = 0 ∧ Go.bits .and .i64 value 1 = 1 then 1 else 0)).bind _ = _
  rw [ea, bytes_put h (by omega) hT hb (by split <;> simp), Option.bind_some]
  rw [item_g hT hv d n (i + 1) _ _ h3 (by omega) (by omega), ← puts_append, drop_byte d hlt, bt_byte d hlt]
  rfl
theorem one_ok {v n : Int} (hn : n ≤ 4194304) (hv : 0 ≤ v ∧ v ≤ 3) : RawOk [⟨v, n⟩] := fun r hr => by rw [List.mem_singleton.mp hr]; exact ⟨hn, hv⟩
theorem rawok_app {p q : List RunT} (hp : RawOk p) (hq : RawOk q) : RawOk (p ++ q) := fun r hr => by
 rcases List.mem_append.mp hr with h | h
 ·exact hp r h
 ·exact hq r h
theorem front_ok {T : Int} (hT : tOk T) {x : ItT} (hg : x.f0 ≤ 1048576) (b : Bool) : RawOk (frontR T x b) := by
 unfold tOk at hT
 unfold frontR
 split
 ·exact one_ok (by omega) (by decide)
 ·exact rawok_app (one_ok (by omega) (by decide)) (rawok_app (p := [⟨2, T⟩]) (one_ok (by omega) (by decide)) (one_ok (by omega) (by decide)))
theorem stop_ok {T : Int} (hT : tOk T) (x : ItT) : RawOk (stopR T x) := by
 unfold tOk at hT
 unfold stopR
 split
 ·exact rawok_app (p := [⟨0, T⟩]) (one_ok (by omega) (by decide)) (rawok_app (p := [⟨1, T⟩]) (one_ok (by omega) (by decide)) (one_ok (by omega) (by decide)))
 ·exact fun r hr => absurd hr (by simp)
theorem body_ok {T : Int} (hT : tOk T) (x : ItT) : RawOk (bodyR T x) := rawok_app (rawByte_ok hT (by split <;> simp)) (rawData_ok hT _)
theorem two_ok {T : Int} (hT : tOk T) : RawOk [⟨1, T⟩, ⟨0, T⟩] := by
 unfold tOk at hT
 exact rawok_app (p := [⟨1, T⟩]) (one_ok (by omega) (by decide)) (one_ok (by omega) (by decide))
theorem item_ok {T : Int} (hT : tOk T) {x : ItT} (hg : x.f0 ≤ 1048576) (b : Bool) : RawOk (rawItem T x b) := rawok_app (front_ok hT hg b) (rawok_app (rawok_app (two_ok hT) (body_ok hT x)) (stop_ok hT x))
theorem front_len (T : Int) (x : ItT) (b : Bool) : (frontR T x b).length ≤ 3 := by
 unfold frontR
 split <;> simp
theorem stop_len (T : Int) (x : ItT) : (stopR T x).length ≤ 3 := by
 unfold stopR
 split <;> simp
theorem body_len (T : Int) (x : ItT) : (bodyR T x).length = 27 + 27 * x.f3.size := by
 unfold bodyR
 rw [List.length_append, rawByte_len, rawData_len, (toList_eq x.f3).2.2]
theorem item_len (T : Int) {x : ItT} (hd : x.f3.size ≤ 4096) (b : Bool) : (rawItem T x b).length ≤ 110627 := by
 have h1 := front_len T x b
 have h2 := stop_len T x
 have h3 := body_len T x
 unfold rawItem
 simp only [List.length_append, List.length_cons, List.length_nil]
 omega
def ItemOk (x : ItT) : Prop := ItOk x ∧ x.f0 ≤ 1048576
theorem item_put {k : Nat} {o : List RunT} (h : OkR k o) (hk : k ≤ 400000000) {T : Int} (hT : tOk T) {x : ItT} (hx : ItemOk x) (b : Bool) : line_item.f T o x.f0 x.f1 x.f2 x.f3 x.f4 b = some (puts o (rawItem T x b)) := by
 have hfo := front_ok hT hx.2 b
 have hfl := front_len T x b
 obtain ⟨⟨g0, g1, g3, g4, g5, g6⟩, hg⟩ := hx
 have hT' := hT
 unfold tOk at hT'
 unfold line_item.f
 rw [if_pos (by omega)]
 have e1 : line_item.a T o x.f0 b = some (puts o (frontR T x b)) := by
  unfold line_item.a frontR
  by_cases c : b = true
  ·rw [if_pos c, if_pos c, put_eq h (by omega) (by omega)]
   rfl
  ·rw [if_neg c, if_neg c]
   have h1 := putP_ok h (r := ⟨0, x.f0⟩) (r_ok (by omega) (by decide))
   have h2 := putP_ok h1 (r := ⟨2, T⟩) (r_ok (by omega) (by decide))
   rw [put_eq h (by omega) (by omega), Option.bind_some, put_eq h1 (by omega) (by omega), Option.bind_some, put_eq h2 (by omega) (by omega)]
   rfl
 have k1 := puts_ok _ h hfo
 have k2 := putP_ok k1 (r := ⟨1, T⟩) (r_ok (by omega) (by decide))
 have k3 := putP_ok k2 (r := ⟨0, T⟩) (r_ok (by omega) (by decide))
 have k4 := puts_ok (rawByte T x.f1 (if x.f4 = 10 then 1 else 0)) k3 (rawByte_ok hT (by split <;> simp))
 have k5 := puts_ok (rawData T x.f1 x.f3.toList) k4 (rawData_ok hT _)
 have ed : x.f3.toList.drop 0 = x.f3.toList := rfl
 rw [rawByte_len] at k4 k5
 rw [rawData_len, (toList_eq x.f3).2.2] at k5
 rw [e1, Option.bind_some, put_eq k1 (by omega) (by omega), Option.bind_some, put_eq k2 (by omega) (by omega), Option.bind_some]
 rw [show x.f1 % 256 = x.f1 by omega, bytes_put k3 (by omega) hT g1 (by split <;> simp), Option.bind_some]
 rw [item_g hT g1 x.f3 x.f3.size 0 _ _ k4 (by omega) (by omega), ed, Option.bind_some]
 have ez : line_item.z T (puts (puts (putP (putP (puts o (frontR T x b)) ⟨1, T⟩) ⟨0, T⟩) (rawByte T x.f1 (if x.f4 = 10 then 1 else 0))) (rawData T x.f1 x.f3.toList)) x.f2 = some (puts (puts (puts (putP (putP (puts o (frontR T x b)) ⟨1, T⟩) ⟨0, T⟩) (rawByte T x.f1 (if x.f4 = 10 then 1 else 0))) (rawData T x.f1 x.f3.toList)) (stopR T x)) := by
  unfold line_item.z stopR
  by_cases c : x.f2 = 1
  ·have k6 := putP_ok k5 (r := ⟨0, T⟩) (r_ok (by omega) (by decide))
   have k7 := putP_ok k6 (r := ⟨1, T⟩) (r_ok (by omega) (by decide))
   rw [if_pos c, if_pos c, put_eq k5 (by omega) (by omega), Option.bind_some, put_eq k6 (by omega) (by omega), Option.bind_some, w64 (x := 4 * T) (by omega) (by omega), put_eq k7 (by omega) (by omega)]
   rfl
  ·rw [if_neg c, if_neg c]
   rfl
 rw [ez]
 unfold rawItem bodyR
 rw [puts_append, puts_append, puts_append, puts_append]
 rfl
theorem items_put {T : Int} (hT : tOk T) : ∀ (l : List ItT) (b : Bool) (k : Nat) (o : List RunT), OkR k o → (∀ x ∈ l, ItemOk x) → k + 110627 * l.length ≤ 400000000 →
  i2c_Encode.items T b l o = some (puts o (rawAll T b l)) ∧ OkR (k + 110627 * l.length) (puts o (rawAll T b l))
 | [], b, k, o, h, hl, hk => ⟨rfl, h⟩
 | x :: l, b, k, o, h, hl, hk => by
  have hx := hl x (.head _)
  simp only [List.length_cons] at hk ⊢
  have h1 := puts_ok _ h (item_ok hT hx.2 b)
  have hlen := item_len T hx.1.2.2.2.1 b
  have h2 : OkR (k + 110627) (puts o (rawItem T x b)) := ⟨Nat.le_trans h1.1 (by omega), Int.le_trans h1.2.1 (by omega), h1.2.2⟩
  obtain ⟨e, ho⟩ := items_put hT l (x.f2 == 1) _ _ h2 (fun y hy => hl y (.tail _ hy)) (by omega)
  refine ⟨?_, ?_⟩
  ·show (line_item.f T o x.f0 x.f1 x.f2 x.f3 x.f4 b).bind _ = _
   rw [item_put h (by omega) hT hx b, Option.bind_some, e, ← puts_append]
   rfl
  ·rw [show k + 110627 * (l.length + 1) = k + 110627 + 110627 * l.length by omega]
   show OkR _ (puts o (rawItem T x b ++ rawAll T (x.f2 == 1) l))
   rw [puts_append]
   exact ho
def chkV (x : ItT) (last : Bool) : Int :=
 if x.f0 < 0 ∨ x.f0 > 1048576 then 1 else if x.f3.size > 4096 then 6 else if x.f1 < 0 ∨ x.f1 > 255 ∨ x.f2 < 0 ∨ x.f2 > 1 then 2 else if x.f4 ≠ 0 ∧ x.f4 ≠ 10 then 1 else if (x.f4 = 10 ∧ x.f3.size ≠ 0) ∨ (last = true ∧ x.f2 = 0) then 17 else 0
theorem check_item (k : Nat) (x : ItT) (b : Bool) : i2c_check.f (k + 3) x.f0 x.f1 x.f2 x.f3 x.f4 b = some (chkV x b) := by
 unfold i2c_check.f chkV
 by_cases c1 : x.f0 < 0
 ·rw [if_pos c1, if_pos (.inl c1)]
  rfl
 ·rw [if_neg c1]
  by_cases c2 : x.f0 > 1048576
  ·rw [decide_eq_true c2, if_pos (.inr c2)]
   rfl
  ·rw [decide_eq_false c2, if_neg (by omega)]
   simp only [i2c_check.j0, if_neg Bool.false_ne_true]
   by_cases c3 : x.f3.size > 4096
   ·rw [if_pos (by omega), if_pos c3]
   ·rw [if_neg (by omega), if_neg c3]
    by_cases c4 : x.f1 < 0 ∨ x.f1 > 255 ∨ x.f2 < 0 ∨ x.f2 > 1
    ·rw [if_pos c4]
     by_cases d1 : x.f1 < 0
     ·rw [if_pos d1]
      rfl
     ·rw [if_neg d1]
      by_cases d2 : x.f1 > 255
      ·rw [if_pos d2]
       rfl
      ·rw [if_neg d2]
       by_cases d3 : x.f2 < 0
       ·rw [if_pos d3]
        rfl
       ·rw [if_neg d3, decide_eq_true (show x.f2 > 1 by omega)]
        rfl
    ·rw [if_neg c4, if_neg (by omega), if_neg (by omega), if_neg (by omega), decide_eq_false (show ¬ x.f2 > 1 by omega)]
     simp only [i2c_check.j1, if_neg Bool.false_ne_true]
     have fin : ∀ q : Prop, ∀ _ : Decidable q, (q ↔ (x.f4 = 10 ∧ x.f3.size ≠ 0) ∨ (b = true ∧ x.f2 = 0)) → i2c_check.j2 (k + 1) b false x.f0 x.f1 x.f2 x.f3 x.f4 = some (if q then 17 else 0) := by
      intro q _ hq
      simp only [i2c_check.j2, if_neg Bool.false_ne_true, toList_nil]
      by_cases e1 : x.f4 = 10
      ·rw [if_pos e1]
       by_cases e2 : x.f3.size = 0
       ·rw [if_pos e2]
        by_cases e3 : b = true
        ·rw [if_pos e3]
         by_cases e4 : x.f2 = 0
         ·rw [if_pos e4, if_pos (hq.mpr (.inr ⟨e3, e4⟩))]
         ·rw [if_neg e4, if_neg (fun h => by rcases hq.mp h with h | h; exact h.2 e2; exact e4 h.2)]
        ·rw [if_neg e3, if_neg (fun h => by rcases hq.mp h with h | h; exact h.2 e2; exact e3 h.1)]
       ·rw [if_neg e2, if_pos (hq.mpr (.inl ⟨e1, e2⟩))]
      ·rw [if_neg e1]
       by_cases e3 : b = true
       ·rw [if_pos e3]
        by_cases e4 : x.f2 = 0
        ·rw [if_pos e4, if_pos (hq.mpr (.inr ⟨e3, e4⟩))]
        ·rw [if_neg e4, if_neg (fun h => by rcases hq.mp h with h | h; exact e1 h.1; exact e4 h.2)]
       ·rw [if_neg e3, if_neg (fun h => by rcases hq.mp h with h | h; exact e1 h.1; exact e3 h.1)]
     by_cases c5 : x.f4 = 0
     ·rw [if_pos c5, if_neg (by omega)]
      exact fin _ _ Iff.rfl
     ·rw [if_neg c5]
      by_cases c6 : x.f4 = 10
      ·have e6 : (x.f4 != 10) = false := by rw [c6]; rfl
       rw [e6, if_neg (by omega)]
       exact fin _ _ Iff.rfl
      ·have e6 : (x.f4 != 10) = true := bne_iff_ne.mpr c6
       rw [e6, if_pos ⟨c5, c6⟩]
       rfl
theorem right_item (k : Nat) (x : ItT) (b : Bool) : r23_right.f (k + 3) x.f0 x.f1 x.f2 x.f3 x.f4 b = some (chkV x b) := by
 unfold r23_right.f chkV
 by_cases c1 : x.f0 < 0
 ·rw [if_pos c1, if_pos (.inl c1)]
  rfl
 ·rw [if_neg c1]
  by_cases c2 : x.f0 > 1048576
  ·rw [decide_eq_true c2, if_pos (.inr c2)]
   rfl
  ·rw [decide_eq_false c2, if_neg (by omega)]
   simp only [r23_right.j0, if_neg Bool.false_ne_true]
   by_cases c3 : x.f3.size > 4096
   ·rw [if_pos (by omega), if_pos c3]
   ·rw [if_neg (by omega), if_neg c3]
    by_cases c4 : x.f1 < 0 ∨ x.f1 > 255 ∨ x.f2 < 0 ∨ x.f2 > 1
    ·rw [if_pos c4]
     by_cases d1 : x.f1 < 0
     ·rw [if_pos d1]
      rfl
     ·rw [if_neg d1]
      by_cases d2 : x.f1 > 255
      ·rw [if_pos d2]
       rfl
      ·rw [if_neg d2]
       by_cases d3 : x.f2 < 0
       ·rw [if_pos d3]
        rfl
       ·rw [if_neg d3, decide_eq_true (show x.f2 > 1 by omega)]
        rfl
    ·rw [if_neg c4, if_neg (by omega), if_neg (by omega), if_neg (by omega), decide_eq_false (show ¬ x.f2 > 1 by omega)]
     simp only [r23_right.j1, if_neg Bool.false_ne_true]
     have fin : ∀ q : Prop, ∀ _ : Decidable q, (q ↔ (x.f4 = 10 ∧ x.f3.size ≠ 0) ∨ (b = true ∧ x.f2 = 0)) → r23_right.j2 (k + 1) b false x.f0 x.f1 x.f2 x.f3 x.f4 = some (if q then 17 else 0) := by
      intro q _ hq
      simp only [r23_right.j2, if_neg Bool.false_ne_true, toList_nil]
      by_cases e1 : x.f4 = 10
      ·rw [if_pos e1]
       by_cases e2 : x.f3.size = 0
       ·rw [if_pos e2]
        by_cases e3 : b = true
        ·rw [if_pos e3]
         by_cases e4 : x.f2 = 0
         ·rw [if_pos e4, if_pos (hq.mpr (.inr ⟨e3, e4⟩))]
         ·rw [if_neg e4, if_neg (fun h => by rcases hq.mp h with h | h; exact h.2 e2; exact e4 h.2)]
        ·rw [if_neg e3, if_neg (fun h => by rcases hq.mp h with h | h; exact h.2 e2; exact e3 h.1)]
       ·rw [if_neg e2, if_pos (hq.mpr (.inl ⟨e1, e2⟩))]
      ·rw [if_neg e1]
       by_cases e3 : b = true
       ·rw [if_pos e3]
        by_cases e4 : x.f2 = 0
        ·rw [if_pos e4, if_pos (hq.mpr (.inr ⟨e3, e4⟩))]
        ·rw [if_neg e4, if_neg (fun h => by rcases hq.mp h with h | h; exact e1 h.1; exact e4 h.2)]
       ·rw [if_neg e3, if_neg (fun h => by rcases hq.mp h with h | h; exact e1 h.1; exact e3 h.1)]
     by_cases c5 : x.f4 = 0
     ·rw [if_pos c5, if_neg (by omega)]
      exact fin _ _ Iff.rfl
     ·rw [if_neg c5]
      by_cases c6 : x.f4 = 10
      ·have e6 : (x.f4 != 10) = false := by rw [c6]; rfl
       rw [e6, if_neg (by omega)]
       exact fin _ _ Iff.rfl
      ·have e6 : (x.f4 != 10) = true := bne_iff_ne.mpr c6
       rw [e6, if_pos ⟨c5, c6⟩]
       rfl
theorem chkV_ok {x : ItT} {b : Bool} (h : chkV x b = 0) : ItemOk x ∧ (b = true → x.f2 = 1) := by
 unfold chkV at h
 by_cases c1 : x.f0 < 0 ∨ x.f0 > 1048576
 ·rw [if_pos c1] at h
  exact absurd h (by decide)
 ·rw [if_neg c1] at h
  by_cases c2 : x.f3.size > 4096
  ·rw [if_pos c2] at h
   exact absurd h (by decide)
  ·rw [if_neg c2] at h
   by_cases c3 : x.f1 < 0 ∨ x.f1 > 255 ∨ x.f2 < 0 ∨ x.f2 > 1
   ·rw [if_pos c3] at h
    exact absurd h (by decide)
   ·rw [if_neg c3] at h
    by_cases c4 : x.f4 ≠ 0 ∧ x.f4 ≠ 10
    ·rw [if_pos c4] at h
     exact absurd h (by decide)
    ·rw [if_neg c4] at h
     by_cases c5 : (x.f4 = 10 ∧ x.f3.size ≠ 0) ∨ (b = true ∧ x.f2 = 0)
     ·rw [if_pos c5] at h
      exact absurd h (by decide)
     ·exact ⟨⟨⟨by omega, by omega, by omega, by omega, by omega, fun e => by
       by_cases z : x.f3.size = 0
       ·exact z
       ·exact absurd (.inl ⟨e, z⟩) c5⟩, by omega⟩, fun e => by
       by_cases z : x.f2 = 0
       ·exact absurd (.inr ⟨e, z⟩) c5
       ·omega⟩
def chkA (n : Nat) : Nat → List ItT → Int
 | _, [] => 0
 | i, x :: r => if chkV x ((i : Int) == (n : Int) - 1) = 0 then chkA n (i + 1) r else chkV x ((i : Int) == (n : Int) - 1)
theorem chk_eq (k n : Nat) : ∀ (l : List ItT) (i : Nat), i2c_Encode.chk (k + 3) n i l = some (chkA n i l)
 | [], i => rfl
 | x :: l, i => by
  show (i2c_check.f (k + 3) x.f0 x.f1 x.f2 x.f3 x.f4 ((i : Int) == (n : Int) - 1)).bind _ = _
  rw [check_item, Option.bind_some, chkA]
  split
  ·exact chk_eq k n l (i + 1)
  ·rfl
theorem chkA_ok {n : Nat} : ∀ (l : List ItT) (i : Nat) (b : Bool), i + l.length = n → chkA n i l = 0 → (l = [] → b = true) → (∀ x ∈ l, ItemOk x) ∧ lastV b l
 | [], i, b, hn, h, hb => ⟨fun x hx => absurd hx (by simp), hb rfl⟩
 | x :: l, i, b, hn, h, hb => by
  simp only [List.length_cons] at hn
  rw [chkA] at h
  split at h
  ·rename_i c
   obtain ⟨hx, hlast⟩ := chkV_ok c
   obtain ⟨h1, h2⟩ := chkA_ok l (i + 1) (x.f2 == 1) (by omega) h (fun e => by
    subst e
    rw [hlast (by simp only [List.length_nil] at hn; rw [beq_iff_eq]; omega)]
    rfl)
   exact ⟨fun y hy => by
    rcases List.mem_cons.mp hy with rfl | hy
    ·exact hx
    ·exact h1 y hy, h2⟩
  ·rename_i c
   exact absurd h c
def outV (T : Int) (l : List ItT) : List RunT := puts [⟨3, 4 * T⟩] (rawAll T true l)
def encV (T : Int) (l : List ItT) : List RunT × Int :=
 if okC T then (if l.length > 1024 then ([], 6) else if chkA l.length 0 l = 0 then (if (outV T l).length > 262144 then ([], 6) else if sumT (outV T l) > 1099511627776 then ([], 2) else (outV T l, 0)) else ([], chkA l.length 0 l)) else ([], 2)
theorem left_eq : ∀ (l : List RunT) (a : Int), (∀ r ∈ l, 1 ≤ r.f1) → a ≤ 1099511627776 → -9223372036854775808 ≤ a - sumT l → i2c_Encode.left a l = a - sumT l
 | [], a, h, ha, hb => by simp [i2c_Encode.left, sumT]
 | r :: l, a, h, ha, hb => by
  have h1 := h r (.head _)
  have h2 := sum_nonneg (fun x hx => h x (.tail _ hx) : ∀ x ∈ l, 1 ≤ x.f1)
  simp only [sumT] at hb ⊢
  rw [i2c_Encode.left, w64 (by omega) (by omega), left_eq l _ (fun x hx => h x (.tail _ hx)) (by omega) (by omega)]
  omega
theorem out_ok {T : Int} (hT : tOk T) {l : List ItT} (hl : l.length ≤ 1024) (h : chkA l.length 0 l = 0) : OkR (1 + 110627 * l.length) (outV T l) ∧ i2c_Encode.items T true l [⟨3, 4 * T⟩] = some (outV T l) := by
 obtain ⟨h1, h2⟩ := chkA_ok l 0 true (by omega) h (fun _ => rfl)
 have h0 : OkR 1 [⟨3, 4 * T⟩] := by
  have hT' := hT
  unfold tOk at hT'
  refine ⟨Nat.le_refl _, by simp only [sumT]; omega, fun y hy => ?_⟩
  rw [List.mem_singleton.mp hy]
  exact ⟨by show 1 ≤ 4 * T; omega, by show (0 : Int) ≤ 3; decide, by show (3 : Int) ≤ 3; decide⟩
 obtain ⟨e, ho⟩ := items_put hT l true 1 _ h0 h1 (by omega)
 exact ⟨ho, e⟩
theorem enc_at {T : Int} (l : List ItT) {k : Nat} (hk : 3 ≤ k) : i2c_Encode.f k T l = some (encV T l) := by
 obtain ⟨j, rfl⟩ : ∃ j, k = j + 3 := ⟨k - 3, by omega⟩
 unfold i2c_Encode.f encV
 rw [(check_eq T).1, Option.bind_some]
 by_cases hc : okC T
 ·rw [check_ok hc, if_pos rfl, if_pos hc]
  by_cases hl : l.length > 1024
  ·rw [if_pos (by omega), if_pos hl]
  ·rw [if_neg (by omega), if_neg hl, chk_eq, Option.bind_some]
   by_cases h0 : chkA l.length 0 l = 0
   ·rw [if_pos h0, if_pos h0]
    obtain ⟨ho, e⟩ := out_ok (T := T) hc (by omega) h0
    have hT' := hc
    unfold okC at hT'
    unfold i2c_Encode.rest
    rw [w64 (x := 4 * T) (by omega) (by omega), put_eq (k := 0) ⟨Nat.le_refl _, by simp [sumT], fun y hy => absurd hy (by simp)⟩ (by omega) (by omega), Option.bind_some]
    have e0 : putP [] ⟨3, 4 * T⟩ = [⟨3, 4 * T⟩] := by
     unfold putP
     rw [if_neg (by show ¬ 4 * T < 1; omega)]
     rfl
    rw [e0, e, Option.bind_some]
    have hs := ho.2.1
    have hn := sum_nonneg (fun y hy => (ho.2.2 y hy).1)
    rw [left_eq _ _ (fun y hy => (ho.2.2 y hy).1) (by omega) (by omega)]
    by_cases c1 : (outV T l).length > 262144
    ·rw [if_pos (by omega), if_pos c1]
    ·rw [if_neg (by omega), if_neg c1]
     by_cases c2 : sumT (outV T l) > 1099511627776
     ·rw [if_pos (by omega), if_pos c2]
     ·rw [if_neg (by omega), if_neg c2]
   ·rw [if_neg h0, if_neg h0]
 ·rw [check_no hc, if_neg (by decide), if_neg hc]
/-- What is encoded without an error. -/
theorem enc_good {T : Int} {l : List ItT} (h : (encV T l).2 = 0) : okC T ∧ (encV T l).1 = outV T l ∧ (outV T l).length ≤ 262144 ∧ sumT (outV T l) ≤ 1099511627776 ∧ (∀ y ∈ outV T l, 1 ≤ y.f1 ∧ 0 ≤ y.f0 ∧ y.f0 ≤ 3) ∧ (∀ x ∈ l, ItOk x) ∧ lastV true l ∧ l.length ≤ 1024 := by
 unfold encV at h ⊢
 by_cases hc : okC T
 ·rw [if_pos hc] at h ⊢
  by_cases hl : l.length > 1024
  ·rw [if_pos hl] at h
   exact absurd h (by decide : ¬ (6 : Int) = 0)
  ·rw [if_neg hl] at h ⊢
   by_cases h0 : chkA l.length 0 l = 0
   ·rw [if_pos h0] at h ⊢
    by_cases c1 : (outV T l).length > 262144
    ·rw [if_pos c1] at h
     exact absurd h (by decide : ¬ (6 : Int) = 0)
    ·rw [if_neg c1] at h ⊢
     by_cases c2 : sumT (outV T l) > 1099511627776
     ·rw [if_pos c2] at h
      exact absurd h (by decide : ¬ (2 : Int) = 0)
     ·rw [if_neg c2]
      obtain ⟨h1, h2⟩ := chkA_ok l 0 true (by omega) h0 (fun _ => rfl)
      exact ⟨hc, rfl, by omega, by omega, (out_ok (T := T) hc (by omega) h0).1.2.2, fun x hx => (h1 x hx).1, h2, by omega⟩
   ·rw [if_neg h0] at h
    exact absurd h h0
 ·rw [if_neg hc] at h
  exact absurd h (by decide : ¬ (2 : Int) = 0)
theorem enc_nil {T : Int} {l : List ItT} (h : ¬ (encV T l).2 = 0) : (encV T l).1 = [] := by
 unfold encV at h ⊢
 by_cases hc : okC T
 ·rw [if_pos hc] at h ⊢
  by_cases hl : l.length > 1024
  ·rw [if_pos hl]
  ·rw [if_neg hl] at h ⊢
   by_cases h0 : chkA l.length 0 l = 0
   ·rw [if_pos h0] at h ⊢
    by_cases c1 : (outV T l).length > 262144
    ·rw [if_pos c1]
    ·rw [if_neg c1] at h ⊢
     by_cases c2 : sumT (outV T l) > 1099511627776
     ·rw [if_pos c2]
     ·rw [if_neg c2] at h
      exact absurd rfl h
   ·rw [if_neg h0]
 ·rw [if_neg hc]
def expV (T : Int) (l : List ItT) : List EvT × Int := if (encV T l).2 = 0 then (decV T (levV 0 (outV T l)), 0) else ([], (encV T l).2)
theorem exp_ev (T : Int) (l : List ItT) : Ev (fun k => i2c_Expect.f k T l) (expV T l) := by
 unfold expV
 by_cases h : (encV T l).2 = 0
 ·rw [if_pos h]
  obtain ⟨hc, e, h1, h2, h3, h4, h5, h6⟩ := enc_good h
  have hx := expect_l0 (c := T) (outV T l) [] [] 0 (Int.le_refl _) (fun y hy => (h3 y hy).1) (by omega) (by simpa using h1) (by simpa using h1)
  refine ev_same 3 (fun k hk => ?_) hx
  unfold i2c_Expect.f
  rw [enc_at l hk, Option.bind_some, if_pos h, e]
  rfl
 ·rw [if_neg h]
  refine ev_same (f := fun _ => some ([], (encV T l).2)) 3 (fun k hk => ?_) (Ev.now _)
  unfold i2c_Expect.f
  rw [enc_at l hk, Option.bind_some, if_neg h]
theorem awk {g : Nat → Option Bool} (n : Nat) (h : ∀ k, n ≤ k → g k = (lw_awake.f k).bind fun t => some t) : Ev g true := ev_same n h awake23_then
theorem same07_l0 : ∀ (post pre : List EvT), (pre ++ post).length ≤ 140737488355328 → Ev (fun k => r07_Same.l0 k (pre ++ post) (pre ++ post) (pre.length : Int)) true
 | [], pre, hl => by
  refine Ev.step (f := fun _ => some true) (fun k => ?_) (Ev.now _)
  simp only [r07_Same.l0]
  rw [if_neg (by simp)]
 | x :: post, pre, hl => by
  have hlt := midl_lt pre post x
  have hn : pre.length ≤ 9223372036854775806 := by
   simp only [List.length_append, List.length_cons] at hl
   omega
  have ih := same07_l0 post (pre ++ [x]) (by simpa using hl)
  rw [← mid_snoc pre post x] at ih
  refine Ev.step (fun k => ?_) ih
  simp only [r07_Same.l0]
  rw [if_pos hlt, if_pos (by omega), if_pos hlt, if_neg (by simp), succ_mid pre x hn]
theorem same07_ev {l : List EvT} (hl : l.length ≤ 140737488355328) : Ev (fun k => r07_Same.f k l l) true := by
 have h := same07_l0 l [] (by simpa using hl)
 refine Ev.congr (fun k => ?_) h
 unfold r07_Same.f
 rw [if_pos rfl]
 rfl
theorem levV_append : ∀ (p q : List RunT) (t : Int), levV t (p ++ q) = levV t p ++ levV (t + sumT p) q
 | [], q, t => by simp [levV, sumT]
 | r :: p, q, t => by
  simp only [List.cons_append, levV, sumT, levV_append p q, Int.add_assoc]
def bitL (B : List Int) : Prop := ∀ v ∈ B, v = 0 ∨ v = 1
def strB (B : List Int) : ByteArray := ⟨(B.map (fun v => UInt8.ofNat (48 + v.toNat))).toArray⟩
def valB : Int → List Int → Int
 | a, [] => a
 | a, v :: l => valB (2 * a + v) l
def foldB (s : StT) (B : List Int) : StT := B.foldl bitV s
theorem foldB_append (s : StT) (p q : List Int) : foldB s (p ++ q) = foldB (foldB s p) q := List.foldl_append ..
def k0 : StT := ⟨2, 0, 0, 0, 0, 0, 0, ⟨#[]⟩⟩
theorem strB_size (B : List Int) : (strB B).size = B.length := by
 show (B.map _).toArray.size = _
 simp
theorem strB_append (p q : List Int) : strB (p ++ q) = strB p ++ strB q := by
 apply ByteArray.ext
 rw [ByteArray.data_append]
 show ((p ++ q).map _).toArray = (p.map _).toArray ++ (q.map _).toArray
 rw [List.map_append]
 simp
theorem bt_strB (p q : List Int) {v : Int} (hv : v = 0 ∨ v = 1) : bt (strB (p ++ v :: q)) (p.length : Int) = 48 + v := by
 have hs : ((p.length : Int)).toNat < (strB (p ++ v :: q)).size := by
  rw [strB_size, Int.toNat_natCast]
  simp
 unfold bt
 rw [dif_pos hs]
 have e : (strB (p ++ v :: q))[((p.length : Int)).toNat]'hs = UInt8.ofNat (48 + v.toNat) := by
  show ((p ++ v :: q).map (fun v => UInt8.ofNat (48 + v.toNat))).toArray[((p.length : Int)).toNat]'_ = _
  simp
 rw [e]
 rcases hv with rfl | rfl <;> rfl
theorem valB_bound : ∀ (l : List Int) (a : Int) (n : Nat), bitL l → 0 ≤ a → a < 2 ^ n → 0 ≤ valB a l ∧ valB a l < 2 ^ (n + l.length)
 | [], a, n, h, h0, h1 => ⟨h0, h1⟩
 | v :: l, a, n, h, h0, h1 => by
  have hv := h v (.head _)
  have hp : (2 : Int) ^ (n + 1) = 2 * 2 ^ n := by rw [Int.pow_succ]; omega
  have := valB_bound l (2 * a + v) (n + 1) (fun x hx => h x (.tail _ hx)) (by omega) (by rw [hp]; omega)
  rw [show n + (v :: l).length = n + 1 + l.length by simp only [List.length_cons]; omega]
  exact this
theorem octet_l0 (e_ : Int) : ∀ (q p r : List Int) (k : Nat) (a : Int), bitL q → (p.length : Int) + q.length = e_ + 8 → 0 ≤ a → a < 2 ^ (8 - q.length) → q.length ≤ 8 → (p ++ (q ++ r)).length ≤ 9223372036854775800 → -9223372036854775808 ≤ e_ → e_ ≤ 9223372036854775790 →
  r23_octet.l0 (k + q.length + 1) (strB (p ++ (q ++ r))) e_ a (p.length : Int) = some (valB a q)
 | [], p, r, k, a, hq, hp, h0, h1, h8, hl, he, he2 => by
  simp only [List.length_nil] at hp
  simp only [r23_octet.l0]
  rw [w64 (x := e_ + 8) (by omega) (by omega), if_neg (by omega)]
  rfl
 | v :: q, p, r, k, a, hq, hp, h0, h1, h8, hl, he, he2 => by
  simp only [List.length_cons] at hp h8 h1
  have hv := hq v (.head _)
  have hx : (p ++ (v :: q ++ r)).length = p.length + (q.length + 1) + r.length := by simp only [List.length_append, List.length_cons]; omega
  have h28 : (2 : Int) ^ (8 - (q.length + 1)) ≤ 2 ^ 7 := by
   have : (2 : Nat) ^ (8 - (q.length + 1)) ≤ 2 ^ 7 := Nat.pow_le_pow_right (by decide) (by omega)
   have e : ((2 : Int) ^ (8 - (q.length + 1))) = ((2 ^ (8 - (q.length + 1)) : Nat) : Int) := by push_cast; rfl
   omega
  have hp2 : (2 : Int) ^ (8 - q.length) = 2 * 2 ^ (8 - (q.length + 1)) := by
   rw [show 8 - q.length = (8 - (q.length + 1)) + 1 by omega, Int.pow_succ]
   omega
  have hbt := bt_strB p (q ++ r) hv
  have es : p ++ (v :: q ++ r) = (p ++ [v]) ++ (q ++ r) := by simp
  have ih := octet_l0 e_ q (p ++ [v]) r k (2 * a + v) (fun x hx => hq x (.tail _ hx)) (by simp only [List.length_append, List.length_cons, List.length_nil]; omega) (by omega) (by rw [hp2]; omega) (by omega) (by rw [← es]; exact hl) he he2
  rw [← es] at ih
  rw [show k + (v :: q).length + 1 = (k + q.length + 1) + 1 by simp only [List.length_cons]; omega]
  rw [r23_octet.l0]
  rw [w64 (x := e_ + 8) (by omega) (by omega), if_pos (by omega), if_pos (by omega), strB_size, if_pos (by omega)]
  have hbt' : bt (strB (p ++ (v :: q ++ r))) (p.length : Int) = 48 + v := hbt
  rw [hbt', w64 (x := 48 + v) (by omega) (by omega), w64 (x := 2 * a) (by omega) (by omega), w64 (x := 2 * a + (48 + v)) (by omega) (by omega), w64 (x := 2 * a + (48 + v) - 48) (by omega) (by omega), w64 (x := (p.length : Int) + 1) (by omega) (by omega)]
  rw [show 2 * a + (48 + v) - 48 = 2 * a + v by omega, show (p.length : Int) + 1 = ((p ++ [v]).length : Int) by simp]
  exact ih
theorem fold_bits : ∀ (o : List Int) (s : StT), s.f3 + o.length ≤ 8 → foldB s o = ⟨s.f0, s.f1, s.f2, s.f3 + o.length, valB s.f4 o, s.f5, s.f6, s.f7⟩
 | [], s, h => by simp [foldB, valB]
 | v :: o, s, h => by
  simp only [List.length_cons] at h
  have e : bitV s v = ⟨s.f0, s.f1, s.f2, s.f3 + 1, 2 * s.f4 + v, s.f5, s.f6, s.f7⟩ := by
   unfold bitV
   rw [if_pos (by omega)]
  show foldB (bitV s v) o = _
  rw [e, fold_bits o _ (by show s.f3 + 1 + (o.length : Int) ≤ 8; omega)]
  simp only [List.length_cons, valB]
  rw [show s.f3 + 1 + (o.length : Int) = s.f3 + ((o.length + 1 : Nat) : Int) by push_cast; omega]
theorem fold_group {s : StT} {o : List Int} {a : Int} (h3 : s.f3 = 0) (h4 : s.f4 = 0) (ho : o.length = 8) : foldB s (o ++ [a]) = ⟨s.f0, s.f1, s.f2, 0, 0, auxV s.f5 a s.f7.size, s.f6, if s.f7.size ≤ 4096 then s.f7 ++ (⟨#[UInt8.ofNat (valB 0 o).toNat]⟩ : ByteArray) else s.f7⟩ := by
 rw [foldB_append, fold_bits o s (by omega), h3, h4, ho]
 have e : ∀ s : StT, foldB s [a] = bitV s a := fun _ => rfl
 rw [e]
 unfold bitV
 rw [if_neg (show ¬ ((0 : Int) + ((8 : Nat) : Int) < 8) by decide)]
theorem aux_n (a v : Int) (d : Nat) : auxV a v d % 2 = 1 ↔ a / 2 % 2 = 1 ∨ a % 2 = 1 := by
 unfold auxV
 split <;> split <;> split <;> omega
theorem aux_l (a v : Int) (d : Nat) : auxV a v d / 2 % 2 = 1 ↔ v ≠ 0 := by
 unfold auxV
 split <;> split <;> split <;> omega
theorem aux_g (a v : Int) (d : Nat) : auxV a v d / 4 % 2 = 1 ↔ (d ≤ 4096 → a / 4 % 2 = 1) := by
 unfold auxV
 split <;> split <;> split <;> omega
structure SegJ (G i : Nat) (st : StT) (val : Int) (xs : List Int) (nk : Bool) : Prop where
 h3 : st.f3 = 0
 h4 : st.f4 = 0
 zero : i = 0 → val = -1 ∧ xs = [] ∧ nk = false ∧ st.f5 = 0 ∧ st.f7 = ⟨#[]⟩
 more : 0 < i → (0 ≤ val ∧ val ≤ 255) ∧ st.f7 = (⟨#[UInt8.ofNat val.toNat]⟩ : ByteArray) ++ strOfNums xs ∧ xs.length = min (i - 1) 4096
 long : st.f5 / 4 % 2 = 1 ↔ 4097 < i
 nack : i < G → (nk = true ↔ st.f5 % 2 = 1 ∨ st.f5 / 2 % 2 = 1)
 last : i = G → (nk = true ↔ st.f5 % 2 = 1 ∨ (st.f5 / 2 % 2 = 1 ∧ ¬ (1 < G ∧ val % 2 = 1)))
theorem nums_size (xs : List Int) : (strOfNums xs).size = xs.length := by
 show (xs.map _).toArray.size = _
 simp
theorem nums_snoc (xs : List Int) (v : Int) : strOfNums (xs ++ [v]) = strOfNums xs ++ (⟨#[UInt8.ofNat v.toNat]⟩ : ByteArray) := by
 apply ByteArray.ext
 rw [ByteArray.data_append]
 show ((xs ++ [v]).map _).toArray = (xs.map _).toArray ++ _
 rw [List.map_append]
 simp
/-- One group more. -/
theorem segJ_step {G i : Nat} {st : StT} {val : Int} {xs : List Int} {nk : Bool} (J : SegJ G i st val xs nk) (hi : i < G) {o : List Int} {a : Int} (ho : o.length = 8) (hv : 0 ≤ valB 0 o ∧ valB 0 o ≤ 255) (ha : a = 0 ∨ a = 1) :
  SegJ G (i + 1) (foldB st (o ++ [a])) (if i = 0 then valB 0 o else val) (if i = 0 then xs else if xs.length < 4096 then xs ++ [valB 0 o] else xs) (if a = 1 ∧ ¬ (0 < i ∧ i + 1 = G ∧ val % 2 = 1) then true else nk) := by
 rw [fold_group J.h3 J.h4 ho]
 have hsz : 0 < i → st.f7.size = 1 + xs.length := fun h => by
  rw [(J.more h).2.1, ByteArray.size_append, nums_size]
  rfl
 have hsz0 : i = 0 → st.f7.size = 0 := fun h => by
  rw [(J.zero h).2.2.2.2]
  rfl
 refine ⟨rfl, rfl, fun h => absurd h (by omega), fun _ => ?_, ?_, fun h => ?_, fun h => ?_⟩
 ·by_cases c0 : i = 0
  ·obtain ⟨z1, z2, z3, z4, z5⟩ := J.zero c0
   rw [if_pos c0, if_pos c0]
   refine ⟨hv, ?_, by rw [z2, c0]; rfl⟩
   show (if st.f7.size ≤ 4096 then st.f7 ++ (⟨#[UInt8.ofNat (valB 0 o).toNat]⟩ : ByteArray) else st.f7) = _
   rw [if_pos (by have := hsz0 c0; omega), z5, z2, e_app]
   exact (app_e _).symm
  ·obtain ⟨m1, m2, m3⟩ := J.more (by omega)
   have hs := hsz (by omega)
   rw [if_neg c0, if_neg c0]
   refine ⟨m1, ?_, ?_⟩
   ·show (if st.f7.size ≤ 4096 then st.f7 ++ (⟨#[UInt8.ofNat (valB 0 o).toNat]⟩ : ByteArray) else st.f7) = _
    by_cases c1 : xs.length < 4096
    ·rw [if_pos (by omega), if_pos c1, nums_snoc, m2, ByteArray.append_assoc]
    ·rw [if_neg (by omega), if_neg c1, m2]
   ·by_cases c1 : xs.length < 4096
    ·rw [if_pos c1, List.length_append, List.length_cons, List.length_nil]
     omega
    ·rw [if_neg c1]
     omega
 ·show auxV st.f5 a st.f7.size / 4 % 2 = 1 ↔ _
  rw [aux_g, J.long]
  by_cases c0 : i = 0
  ·have := hsz0 c0
   omega
  ·have hs := hsz (by omega)
   have m3 := (J.more (by omega)).2.2
   omega
 ·show _ ↔ auxV st.f5 a st.f7.size % 2 = 1 ∨ auxV st.f5 a st.f7.size / 2 % 2 = 1
  rw [aux_n, aux_l]
  have hn := J.nack hi
  by_cases c1 : a = 1
  ·rw [if_pos ⟨c1, fun hh => by omega⟩]
   exact ⟨fun _ => .inr (by omega), fun _ => rfl⟩
  ·rw [if_neg (fun hh => c1 hh.1), hn]
   omega
 ·show _ ↔ auxV st.f5 a st.f7.size % 2 = 1 ∨ (auxV st.f5 a st.f7.size / 2 % 2 = 1 ∧ _)
  rw [aux_n, aux_l]
  have hn := J.nack hi
  by_cases c0 : i = 0
  ·rw [if_pos c0]
   by_cases c1 : a = 1
   ·rw [if_pos ⟨c1, fun hh => by omega⟩]
    exact ⟨fun _ => .inr ⟨by omega, fun hh => by omega⟩, fun _ => rfl⟩
   ·rw [if_neg (fun hh => c1 hh.1), hn]
    omega
  ·rw [if_neg c0]
   by_cases c1 : a = 1 ∧ ¬ (0 < i ∧ i + 1 = G ∧ val % 2 = 1)
   ·rw [if_pos c1]
    exact ⟨fun _ => .inr ⟨by omega, fun hh => c1.2 ⟨by omega, h, hh.2⟩⟩, fun _ => rfl⟩
   ·rw [if_neg c1, hn]
    omega
theorem oct_at {pre o r : List Int} (hpre : ∀ v ∈ o, v = 0 ∨ v = 1) (ho : o.length = 8) (hl : (pre ++ (o ++ r)).length ≤ 1099511627776) {k : Nat} (hk : 9 ≤ k) : r23_octet.f k (strB (pre ++ (o ++ r))) (pre.length : Int) = some (valB 0 o) ∧ 0 ≤ valB 0 o ∧ valB 0 o ≤ 255 := by
 have hb := valB_bound o 0 0 hpre (Int.le_refl _) (by decide)
 rw [ho] at hb
 have hpl : pre.length ≤ 1099511627776 := by
  rw [List.length_append] at hl
  omega
 refine ⟨?_, hb.1, by have := hb.2; omega⟩
 have h := octet_l0 (pre.length : Int) o pre r (k - 9) 0 hpre (by omega) (Int.le_refl _) (by rw [ho]; decide) (by omega) (by omega) (by omega) (by omega)
 rw [ho, show k - 9 + 8 + 1 = k by omega] at h
 exact h
set_option maxHeartbeats 4000000 in
theorem seg_step {pre o r : List Int} {a : Int} {G i : Nat} {val fr en stop : Int} {xs : List Int} {nk : Bool} (hpre : ∀ v ∈ o, v = 0 ∨ v = 1) (ha : a = 0 ∨ a = 1) (ho : o.length = 8) (hp : pre.length = 9 * i) (hi : i < G) (hG : G ≤ 1099511627776)
  (hl : (pre ++ (o ++ a :: r)).length ≤ 1099511627776) (hval : 0 < i → 0 ≤ val) {k : Nat} (hk : 9 ≤ k) :
  r23_segment.l0 (k + 1) (strB (pre ++ (o ++ a :: r))) (G : Int) xs nk (i : Int) 5 fr en val stop ⟨#[]⟩ 0 =
  r23_segment.l0 k (strB (pre ++ (o ++ a :: r))) (G : Int) (if i = 0 then xs else if xs.length < 4096 then xs ++ [valB 0 o] else xs) (if a = 1 ∧ ¬ (0 < i ∧ i + 1 = G ∧ val % 2 = 1) then true else nk) ((i + 1 : Nat) : Int) 5 fr en (if i = 0 then valB 0 o else val) stop ⟨#[]⟩ 0 := by
 have hiG : (i : Int) < (G : Int) := Int.ofNat_lt.mpr hi
 have i0 : i = 0 → (i : Int) = 0 := fun h => by rw [h]; rfl
 have ip : ¬ i = 0 → (i : Int) > 0 := fun h => Int.ofNat_lt.mpr (Nat.pos_of_ne_zero h)
 have il : (i : Int) = (G : Int) - 1 → i + 1 = G := fun h => by omega
 have ir : i + 1 = G → (i : Int) = (G : Int) - 1 := fun h => by omega
 have x1 : xs.length < 4096 → (xs.length : Int) < 4096 ∧ xs.length < 140737488355328 := fun h => ⟨by omega, by omega⟩
 have x2 : ¬ xs.length < 4096 → ¬ (xs.length : Int) < 4096 := fun h => by omega
 have tv : ¬ i = 0 → Int.tmod val 2 = val % 2 := fun h => Int.tmod_eq_emod_of_nonneg (hval (Nat.pos_of_ne_zero h))
 obtain ⟨oc, o0, o1⟩ := oct_at (pre := pre) (r := a :: r) hpre ho hl hk
 have hL : (pre ++ (o ++ a :: r)).length = pre.length + (8 + (r.length + 1)) := by simp only [List.length_append, List.length_cons, ho]
 have hb := bt_strB (pre ++ o) r ha
 rw [List.append_assoc] at hb
 have hj : ((pre ++ o).length : Int) = (pre.length : Int) + 8 := by rw [List.length_append, ho]; omega
 have e9 : wrap64 (9 * (i : Int)) = (pre.length : Int) := by rw [w64 (by omega) (by omega)]; omega
 have e8 : wrap64 ((pre.length : Int) + 8) = ((pre ++ o).length : Int) := by rw [w64 (by omega) (by omega)]; omega
 have hj0 : 0 ≤ ((pre ++ o).length : Int) := by omega
 have hj1 : ((pre ++ o).length : Int) < ((strB (pre ++ (o ++ a :: r))).size : Int) := by rw [strB_size, hL]; omega
 have eG : wrap64 ((G : Int) - 1) = (G : Int) - 1 := w64 (by omega) (by omega)
 have ei : wrap64 ((i : Int) + 1) = ((i + 1 : Nat) : Int) := by rw [w64 (by omega) (by omega)]; omega
 have hm : valB 0 o % 256 = valB 0 o := by omega
 have ta : (48 + a = 49) ↔ a = 1 := by omega
 rw [r23_segment.l0]
 refine (if_pos hiG).trans ?_
 rw [e9, oc, Option.bind_some, e8, hb, eG, ei]
 by_cases c0 : i = 0
 ·have n0 : ¬ (i : Int) > 0 := fun h => by rw [i0 c0] at h; exact absurd h (by decide)
  refine (if_pos (i0 c0)).trans ((if_neg n0).trans ((if_pos hj0).trans ((if_pos hj1).trans ?_)))
  by_cases c1 : a = 1
  ·refine (if_pos (ta.mpr c1)).trans ?_
   rw [if_pos c0, if_pos c0, if_pos (show a = 1 ∧ ¬ (0 < i ∧ i + 1 = G ∧ val % 2 = 1) from ⟨c1, fun hh => by rw [c0] at hh; exact absurd hh.1 (Nat.lt_irrefl 0)⟩)]
  ·refine (if_neg (fun hh => c1 (ta.mp hh))).trans ?_
   rw [if_pos c0, if_pos c0, if_neg (show ¬ (a = 1 ∧ ¬ (0 < i ∧ i + 1 = G ∧ val % 2 = 1)) from fun hh => c1 hh.1)]
 ·have n0 := ip c0
  have tv := tv c0
  refine (if_neg (Int.ne_of_gt n0)).trans ?_
  have fin : ∀ y : List Int, (if (i : Int) > 0 then (if (i : Int) = (G : Int) - 1 then (if 0 ≤ ((pre ++ o).length : Int) then (if ((pre ++ o).length : Int) < ((strB (pre ++ (o ++ a :: r))).size : Int) then (if 48 + a = 49 then (if ((Int.tmod val 2) = 1) then (r23_segment.l0 k (strB (pre ++ (o ++ a :: r))) (G : Int) y nk ((i + 1 : Nat) : Int) 5 fr en val stop ⟨#[]⟩ 0) else (r23_segment.l0 k (strB (pre ++ (o ++ a :: r))) (G : Int) y true ((i + 1 : Nat) : Int) 5 fr en val stop ⟨#[]⟩ 0)) else (r23_segment.l0 k (strB (pre ++ (o ++ a :: r))) (G : Int) y nk ((i + 1 : Nat) : Int) 5 fr en val stop ⟨#[]⟩ 0)) else (none)) else (none)) else (if 0 ≤ ((pre ++ o).length : Int) then (if ((pre ++ o).length : Int) < ((strB (pre ++ (o ++ a :: r))).size : Int) then (if 48 + a = 49 then (r23_segment.l0 k (strB (pre ++ (o ++ a :: r))) (G : Int) y true ((i + 1 : Nat) : Int) 5 fr en val stop ⟨#[]⟩ 0) else (r23_segment.l0 k (strB (pre ++ (o ++ a :: r))) (G : Int) y nk ((i + 1 : Nat) : Int) 5 fr en val stop ⟨#[]⟩ 0)) else (none)) else (none))) else (if 0 ≤ ((pre ++ o).length : Int) then (if ((pre ++ o).length : Int) < ((strB (pre ++ (o ++ a :: r))).size : Int) then (if 48 + a = 49 then (r23_segment.l0 k (strB (pre ++ (o ++ a :: r))) (G : Int) y true ((i + 1 : Nat) : Int) 5 fr en val stop ⟨#[]⟩ 0) else (r23_segment.l0 k (strB (pre ++ (o ++ a :: r))) (G : Int) y nk ((i + 1 : Nat) : Int) 5 fr en val stop ⟨#[]⟩ 0)) else (none)) else (none))) = r23_segment.l0 k (strB (pre ++ (o ++ a :: r))) (G : Int) y (if a = 1 ∧ ¬ (0 < i ∧ i + 1 = G ∧ val % 2 = 1) then true else nk) ((i + 1 : Nat) : Int) 5 fr en val stop ⟨#[]⟩ 0 := by
   intro y
   refine (if_pos n0).trans ?_
   rw [tv]
   by_cases cl : (i : Int) = (G : Int) - 1
   ·refine (if_pos cl).trans ((if_pos hj0).trans ((if_pos hj1).trans ?_))
    by_cases c1 : a = 1
    ·refine (if_pos (ta.mpr c1)).trans ?_
     by_cases cv : val % 2 = 1
     ·refine (if_pos cv).trans ?_
      rw [if_neg (show ¬ (a = 1 ∧ ¬ (0 < i ∧ i + 1 = G ∧ val % 2 = 1)) from fun hh => hh.2 ⟨Nat.pos_of_ne_zero c0, il cl, cv⟩)]
     ·refine (if_neg cv).trans ?_
      rw [if_pos (show a = 1 ∧ ¬ (0 < i ∧ i + 1 = G ∧ val % 2 = 1) from ⟨c1, fun hh => cv hh.2.2⟩)]
    ·refine (if_neg (fun hh => c1 (ta.mp hh))).trans ?_
     rw [if_neg (show ¬ (a = 1 ∧ ¬ (0 < i ∧ i + 1 = G ∧ val % 2 = 1)) from fun hh => c1 hh.1)]
   ·refine (if_neg cl).trans ((if_pos hj0).trans ((if_pos hj1).trans ?_))
    by_cases c1 : a = 1
    ·refine (if_pos (ta.mpr c1)).trans ?_
     rw [if_pos (show a = 1 ∧ ¬ (0 < i ∧ i + 1 = G ∧ val % 2 = 1) from ⟨c1, fun hh => cl (ir hh.2.1)⟩)]
    ·refine (if_neg (fun hh => c1 (ta.mp hh))).trans ?_
     rw [if_neg (show ¬ (a = 1 ∧ ¬ (0 < i ∧ i + 1 = G ∧ val % 2 = 1)) from fun hh => c1 hh.1)]
  by_cases cx : xs.length < 4096
  ·refine (if_pos (x1 cx).1).trans ((if_pos (x1 cx).2).trans ?_)
   rw [Option.bind_some, hm]
   refine (fin _).trans ?_
   rw [if_neg c0, if_neg c0, if_pos cx]
  ·refine (if_neg (x2 cx)).trans ?_
   refine (fin _).trans ?_
   rw [if_neg c0, if_neg c0, if_neg cx]
theorem seg_end {pre r : List Int} {G : Nat} {st : StT} {val fr en stop : Int} {xs : List Int} {nk : Bool} (J : SegJ G G st val xs nk) (hst : st = foldB k0 pre) (hp : pre.length = 9 * G) (hr : r.length < 9) (hG : G ≤ 1099511627776) (k : Nat) :
  r23_segment.l0 (k + 1) (strB (pre ++ r)) (G : Int) xs nk (G : Int) 5 fr en val stop ⟨#[]⟩ 0 = some (etup (frmV ⟨2, 0, fr, (foldB k0 (pre ++ r)).f3, 0, (foldB k0 (pre ++ r)).f5, 0, (foldB k0 (pre ++ r)).f7⟩ en stop)) := by
 have hf : foldB k0 (pre ++ r) = ⟨st.f0, st.f1, st.f2, st.f3 + r.length, valB st.f4 r, st.f5, st.f6, st.f7⟩ := by
  rw [foldB_append, ← hst]
  exact fold_bits r st (by rw [J.h3]; omega)
 have eG : wrap64 ((G : Int) - 1) = (G : Int) - 1 := w64 (by omega) (by omega)
 have hsz : ((strB (pre ++ r)).size : Int) % 9 = r.length := by
  rw [strB_size, List.length_append, hp]
  omega
 rw [r23_segment.l0]
 refine (if_neg (Int.lt_irrefl _)).trans ?_
 rw [eG, hsz, hf]
 have hl := J.last rfl
 have hlong := J.long
 have key : frmV ⟨2, 0, fr, st.f3 + r.length, 0, st.f5, 0, st.f7⟩ en stop = ⟨5, fr, en, val, stop, strOfNums xs, if (G : Int) - 1 > 4096 then 8 else if (r.length : Int) > 1 then 7 else if nk = true then 10 else 0⟩ := by
  unfold frmV
  have hval : (if st.f7.size = 0 then (-1 : Int) else ((st.f7.get! 0).toNat : Int)) = val ∧ st.f7.extract 1 st.f7.size = strOfNums xs ∧ ((1 < st.f7.size ∧ (st.f7.get! 0).toNat % 2 = 1) ↔ (1 < G ∧ val % 2 = 1)) := by
   by_cases c0 : G = 0
   ·obtain ⟨z1, z2, z3, z4, z5⟩ := J.zero c0
    rw [z5, z1, z2, c0]
    exact ⟨rfl, rfl, ⟨fun hh => absurd hh.1 (by decide), fun hh => absurd hh.1 (by decide)⟩⟩
   ·obtain ⟨m1, m2, m3⟩ := J.more (by omega)
    have hs : st.f7.size = 1 + xs.length := by
     rw [m2, ByteArray.size_append, nums_size]
     rfl
    have hx : ItOk ⟨0, val, 0, strOfNums xs, 0⟩ := ⟨Int.le_refl 0, m1, .inl rfl, by show (strOfNums xs).size ≤ 4096; rw [nums_size]; omega, .inl rfl, fun h => absurd h (by decide : ¬ (0 : Int) = 10)⟩
    obtain ⟨f1, f2, f3⟩ := segV_facts hx
    have e7 : segV (⟨0, val, 0, strOfNums xs, 0⟩ : ItT) = st.f7 := m2.symm
    rw [e7] at f1 f2 f3
    have f2' : (st.f7.get! 0).toNat = val.toNat := f2
    refine ⟨by rw [if_neg (by omega), f2']; omega, f3, ?_⟩
    rw [f2', hs]
    omega
  obtain ⟨v1, v2, v3⟩ := hval
  have eflt : fltV ⟨2, 0, fr, st.f3 + r.length, 0, st.f5, 0, st.f7⟩ = (if (G : Int) - 1 > 4096 then 8 else if (r.length : Int) > 1 then 7 else if nk = true then 10 else 0) := by
   unfold fltV
   dsimp only
   rw [J.h3]
   have v3' : (st.f7.size > 1 ∧ (st.f7.get! 0).toNat % 2 = 1) ↔ (1 < G ∧ val % 2 = 1) := v3
   by_cases c1 : st.f5 / 4 % 2 = 1
   ·rw [if_pos c1, if_pos (by have := hlong.mp c1; omega)]
   ·rw [if_neg c1, if_neg (show ¬ (G : Int) - 1 > 4096 from fun hh => c1 (hlong.mpr (by omega)))]
    by_cases c2 : (r.length : Int) > 1
    ·rw [if_pos (show 0 + (r.length : Int) > 1 by omega), if_pos c2]
    ·rw [if_neg (show ¬ 0 + (r.length : Int) > 1 by omega), if_neg c2]
     by_cases c3 : st.f5 % 2 = 1
     ·rw [if_pos c3, if_pos (hl.mpr (.inl c3))]
     ·rw [if_neg c3]
      by_cases c4 : st.f5 / 2 % 2 = 1 ∧ ¬ (st.f7.size > 1 ∧ (st.f7.get! 0).toNat % 2 = 1)
      ·rw [if_pos c4, if_pos (hl.mpr (.inr ⟨c4.1, fun hh => c4.2 (v3'.mpr hh)⟩))]
      ·rw [if_neg c4, if_neg (fun hh => by
        rcases hl.mp hh with hh | hh
        ·exact c3 hh
        ·exact c4 ⟨hh.1, fun h2 => hh.2 (v3'.mp h2)⟩)]
  rw [eflt]
  dsimp only
  rw [v1, v2]
 show _ = some (etup (frmV ⟨2, 0, fr, st.f3 + r.length, 0, st.f5, 0, st.f7⟩ en stop))
 rw [key]
 unfold etup
 dsimp only
 by_cases c1 : (G : Int) - 1 > 4096
 ·rw [if_pos c1, if_pos c1]
 ·rw [if_neg c1, if_neg c1]
  by_cases c2 : (r.length : Int) > 1
  ·rw [if_pos c2, if_pos c2]
  ·rw [if_neg c2, if_neg c2]
   by_cases c3 : nk = true
   ·rw [if_pos c3, if_pos c3]
   ·rw [if_neg c3, if_neg c3]
theorem seg_l0 {W : List Int} (hW : bitL W) (hl : W.length ≤ 1099511627776) {fr en stop : Int} : ∀ (m i : Nat) (pre post : List Int) (val : Int) (xs : List Int) (nk : Bool), W = pre ++ post → pre.length = 9 * i → i + m = W.length / 9 → SegJ (W.length / 9) i (foldB k0 pre) val xs nk →
  Ev (fun k => r23_segment.l0 k (strB W) ((W.length / 9 : Nat) : Int) xs nk (i : Int) 5 fr en val stop ⟨#[]⟩ 0) (etup (frmV ⟨2, 0, fr, (foldB k0 W).f3, 0, (foldB k0 W).f5, 0, (foldB k0 W).f7⟩ en stop))
 | 0, i, pre, post, val, xs, nk, hw, hp, him, J => by
  have hi : i = W.length / 9 := by omega
  have hlen : W.length = pre.length + post.length := by rw [hw, List.length_append]
  refine ev_from 1 (fun k => ?_)
  have h := seg_end (pre := pre) (r := post) (fr := fr) (en := en) (stop := stop) (val := val) (xs := xs) (nk := nk) (G := W.length / 9) (by rw [hi] at J; exact J) rfl (by omega) (by omega) (by omega) k
  rw [← hw] at h
  rw [hi]
  exact h
 | m + 1, i, pre, post, val, xs, nk, hw, hp, him, J => by
  have hlen : W.length = pre.length + post.length := by rw [hw, List.length_append]
  have h9 : 9 ≤ post.length := by omega
  obtain ⟨o, a, r, ho, hpost⟩ : ∃ o a r, o.length = 8 ∧ post = o ++ (a :: r) :=
   ⟨post.take 8, post[8], post.drop 9, by rw [List.length_take]; omega, by rw [← List.drop_eq_getElem_cons (by omega), List.take_append_drop]⟩
  subst hpost
  have hbo : ∀ v ∈ o, v = 0 ∨ v = 1 := fun v hv => hW v (by rw [hw]; simp [hv])
  have hba : a = 0 ∨ a = 1 := hW a (by rw [hw]; simp)
  obtain ⟨_, o0, o1⟩ := oct_at (pre := pre) (r := a :: r) hbo ho (by rw [← hw]; exact hl) (Nat.le_refl 9)
  have J2 := segJ_step J (by omega) ho ⟨o0, o1⟩ hba
  rw [← foldB_append] at J2
  have ih := seg_l0 hW hl (fr := fr) (en := en) (stop := stop) m (i + 1) (pre ++ (o ++ [a])) r _ _ _ (by rw [hw]; simp) (by rw [List.length_append, List.length_append, ho, hp]; simp only [List.length_cons, List.length_nil]; omega) (by omega) J2
  refine ev_step 9 (fun k hk => ?_) ih
  have hs := seg_step (pre := pre) (o := o) (r := r) (a := a) (G := W.length / 9) (i := i) (val := val) (fr := fr) (en := en) (stop := stop) (xs := xs) (nk := nk) hbo hba ho hp (by omega) (by omega) (by rw [← hw]; exact hl) (fun hh => (J.more hh).1.1) hk
  rw [← hw] at hs
  exact hs
theorem segment_ev {B : List Int} (hB : bitL B) (hl : B.length ≤ 1099511627776) {s : StT} (h3 : s.f3 = (foldB k0 B).f3) (h5 : s.f5 = (foldB k0 B).f5) (h7 : s.f7 = (foldB k0 B).f7) (en stop : Int) :
  Ev (fun k => r23_segment.f k (strB B) s.f2 en stop) (etup (frmV s en stop)) := by
 have e : frmV s en stop = frmV ⟨2, 0, s.f2, (foldB k0 B).f3, 0, (foldB k0 B).f5, 0, (foldB k0 B).f7⟩ en stop := by
  unfold frmV fltV
  dsimp only
  rw [h3, h5, h7]
 rw [e]
 have J : SegJ (B.length / 9) 0 (foldB k0 []) (-1) [] false := ⟨rfl, rfl, fun _ => ⟨rfl, rfl, rfl, rfl, rfl⟩, fun h => absurd h (by omega), ⟨fun h => absurd h (by decide), fun h => absurd h (by decide)⟩, fun _ => ⟨fun h => absurd h (by decide), fun h => absurd h (by decide)⟩, fun _ => ⟨fun h => absurd h (by decide), fun h => by
  rcases h with h | h
  ·exact absurd h (by decide)
  ·exact absurd h.1 (by decide)⟩⟩
 have h := seg_l0 hB hl (fr := s.f2) (en := en) (stop := stop) (B.length / 9) 0 [] B (-1) [] false rfl rfl (by omega) J
 refine Ev.congr (fun k => ?_) h
 unfold r23_segment.f
 rw [strB_size, w64 (by omega) (by omega)]
 rfl
structure Rel (n : Nat) (s r : StT) : Prop where
 ph : s.f0 = 0 ∨ s.f0 = 1 ∨ s.f0 = 2
 p0 : r.f0 = if s.f0 = 0 then 0 else 1
 p1 : r.f1 = s.f1
 p6 : r.f6 = s.f6
 p3 : r.f3 = if s.f0 = 2 then 1 else 0
 inv : Inv s
 seg : s.f0 = 2 → r.f2 = s.f2 ∧ ∃ B, bitL B ∧ B.length ≤ n ∧ r.f7 = strB B ∧ s.f3 = (foldB k0 B).f3 ∧ s.f4 = (foldB k0 B).f4 ∧ s.f5 = (foldB k0 B).f5 ∧ s.f7 = (foldB k0 B).f7
theorem rel_z : Rel 0 z0 z0 := ⟨.inl rfl, rfl, rfl, rfl, rfl, inv_z0, fun h => absurd h (by decide : ¬ (0 : Int) = 2)⟩
theorem rel_acc {n : Nat} {s r : StT} (h : Rel n s r) (x : EvT) : accP r x ↔ accP s x := by
 have h0 : r.f0 = 0 ↔ s.f0 = 0 := by
  rw [h.p0]
  split <;> simp_all
 show (_ ∧ _ ∧ _ ∧ _ ∧ _ ∧ (r.f0 = 0 ∨ x.f1 = r.f1)) ↔ (_ ∧ _ ∧ _ ∧ _ ∧ _ ∧ (s.f0 = 0 ∨ x.f1 = s.f1))
 rw [h0, h.p1]
theorem bitV_same {s t : StT} (h3 : s.f3 = t.f3) (h4 : s.f4 = t.f4) (h5 : s.f5 = t.f5) (h7 : s.f7 = t.f7) (v : Int) : (bitV s v).f3 = (bitV t v).f3 ∧ (bitV s v).f4 = (bitV t v).f4 ∧ (bitV s v).f5 = (bitV t v).f5 ∧ (bitV s v).f7 = (bitV t v).f7 ∧ (bitV s v).f2 = s.f2 := by
 unfold bitV
 rw [h3, h4, h5, h7]
 split <;> exact ⟨rfl, rfl, rfl, rfl, rfl⟩
theorem chg0 {a b : Int} (h : b % 2 = 0 ∨ (a % 2 = 1 ∧ b % 2 = 1 ∧ a / 2 = b / 2)) : chgV a b = 0 := by
 unfold chgV
 rw [if_neg (by omega), if_neg (by omega), if_neg (by omega)]
theorem chg1 {a b : Int} (ha : 0 ≤ a ∧ a ≤ 3) (hb : 0 ≤ b ∧ b ≤ 3) (h1 : a % 2 = 1) (h2 : b % 2 = 1) (h : ¬ b / 2 = a / 2) : chgV a b = if b / 2 = 0 then 1 else 2 := by
 unfold chgV
 by_cases c : b / 2 = 0
 ·rw [if_pos (by omega), if_pos c]
 ·rw [if_neg (by omega), if_pos (by omega), if_neg c]
theorem chg3 {a b : Int} (h1 : a % 2 = 0) (h2 : b % 2 = 1) : chgV a b = 3 := chgV_read h1 h2
theorem ref_step {c : Int} {n : Nat} {s r : StT} (h : Rel n s r) (hn : n ≤ 1099511627776) (x : EvT) : ∃ r', Ev (fun k => r23_Step.f k c r.f0 r.f1 r.f2 r.f3 r.f4 r.f5 r.f6 r.f7 x.f0 x.f1 x.f2 x.f3 x.f4 x.f5 x.f6) (pk r' (stepV c s x).2) ∧ Rel (n + 1) (stepV c s x).1 r' := by
 have mono : ∀ {s r : StT}, Rel n s r → Rel (n + 1) s r := fun h => ⟨h.ph, h.p0, h.p1, h.p6, h.p3, h.inv, fun e => by
  obtain ⟨a, B, b1, b2, b3⟩ := h.seg e
  exact ⟨a, B, b1, by omega, b3⟩⟩
 have hno : ¬ (okC c ∧ accP s x) → ∃ r', Ev (fun k => r23_Step.j0 k true r.f0 r.f1 r.f2 r.f3 r.f4 r.f5 r.f6 r.f7 x.f0 x.f1 x.f2 x.f3 x.f4 x.f5 x.f6) (pk r' (stepV c s x).2) ∧ Rel (n + 1) (stepV c s x).1 r' := fun hh => by
  have e : stepV c s x = (s, []) := if_neg hh
  rw [e]
  exact ⟨r, ev_from 1 (fun k => rfl), mono h⟩
 by_cases hc : okC c
 ·by_cases ha : accP s x
  ·have e : stepV c s x = goV s x.f1 x.f2 x.f3 := if_pos ⟨hc, ha⟩
   rw [e]
   have hf : ∀ k, r23_Step.f k c r.f0 r.f1 r.f2 r.f3 r.f4 r.f5 r.f6 r.f7 x.f0 x.f1 x.f2 x.f3 x.f4 x.f5 x.f6 = r23_Step.j0 k false r.f0 r.f1 r.f2 r.f3 r.f4 r.f5 r.f6 r.f7 x.f0 x.f1 x.f2 x.f3 x.f4 x.f5 x.f6 := fun k => by
    unfold r23_Step.f
    rw [(check_eq c).2, Option.bind_some, check_ok hc, if_pos rfl, accepts_eq, Option.bind_some, decide_eq_true ((rel_acc h x).mpr ha)]
    rfl
   have hv := ha.2.2.2.2.1
   have hp := h.inv.1
   have hinv := goV_inv h.inv (a := x.f1) (b := x.f2) hv
   have tv : Int.tmod x.f3 2 = x.f3 % 2 := Int.tmod_eq_emod_of_nonneg hv.1
   have td : wrap64 (Int.tdiv x.f3 2) = x.f3 / 2 := by rw [Int.tdiv_eq_ediv_of_nonneg hv.1]; exact w64 (by omega) (by omega)
   have tp : Int.tmod r.f6 2 = s.f6 % 2 := by rw [h.p6]; exact Int.tmod_eq_emod_of_nonneg hp.1
   have tq : wrap64 (Int.tdiv r.f6 2) = s.f6 / 2 := by rw [h.p6, Int.tdiv_eq_ediv_of_nonneg hp.1]; exact w64 (by omega) (by omega)
   have hs0 : ¬ s.f0 = 0 → (s.f0 = 1 ∨ s.f0 = 2) := fun h0 => by have := h.ph; omega
   by_cases c0 : s.f0 = 0
   ·have hr0 : r.f0 = 0 := by rw [h.p0, if_pos c0]
    have eg : goV s x.f1 x.f2 x.f3 = (⟨1, x.f2, 0, 0, 0, 0, x.f3, ⟨#[]⟩⟩, []) := if_pos c0
    rw [eg] at hinv ⊢
    refine ⟨⟨1, x.f2, r.f2, r.f3, r.f4, r.f5, x.f3, r.f7⟩, ev_from 1 (fun k => ?_), ⟨.inr (.inl rfl), rfl, rfl, rfl, ?_, hinv, fun h => absurd h (by decide : ¬ (1 : Int) = 2)⟩⟩
    ·rw [hf]
     simp only [r23_Step.j0, if_neg Bool.false_ne_true]
     exact if_pos hr0
    ·show r.f3 = _
     rw [h.p3, if_neg (by omega)]
     rfl
   ·have hr0 : ¬ r.f0 = 0 := by rw [h.p0, if_neg c0]; decide
    have h12 := hs0 c0
    -- time alone
    have plain : chgV s.f6 x.f3 = 0 ∨ (chgV s.f6 x.f3 = 3 ∧ ¬ s.f0 = 2) → Rel (n + 1) (goV s x.f1 x.f2 x.f3).1 ⟨1, x.f2, r.f2, r.f3, r.f4, r.f5, x.f3, r.f7⟩ ∧ (goV s x.f1 x.f2 x.f3).2 = [] := fun hq => by
     have eg : goV s x.f1 x.f2 x.f3 = (⟨s.f0, x.f2, s.f2, s.f3, s.f4, s.f5, x.f3, s.f7⟩, []) := by
      unfold goV
      rw [if_neg c0, if_neg (by omega), if_neg (by omega), if_neg (fun hh => by omega)]
     rw [eg] at hinv ⊢
     refine ⟨⟨h.ph, ?_, rfl, rfl, h.p3, hinv, fun e2 => ?_⟩, rfl⟩
     ·show (1 : Int) = if s.f0 = 0 then 0 else 1
      rw [if_neg c0]
     ·obtain ⟨a1, B, b1, b2, b3⟩ := h.seg e2
      exact ⟨a1, B, b1, by omega, b3⟩
    have hplain : chgV s.f6 x.f3 = 0 ∨ (chgV s.f6 x.f3 = 3 ∧ ¬ s.f0 = 2) → (∀ k, r23_Step.j0 (k + 3) false r.f0 r.f1 r.f2 r.f3 r.f4 r.f5 r.f6 r.f7 x.f0 x.f1 x.f2 x.f3 x.f4 x.f5 x.f6 = some (1, x.f2, r.f2, r.f3, r.f4, r.f5, x.f3, r.f7, [])) → ∃ r', Ev (fun k => r23_Step.f k c r.f0 r.f1 r.f2 r.f3 r.f4 r.f5 r.f6 r.f7 x.f0 x.f1 x.f2 x.f3 x.f4 x.f5 x.f6) (pk r' (goV s x.f1 x.f2 x.f3).2) ∧ Rel (n + 1) (goV s x.f1 x.f2 x.f3).1 r' := fun hq hk => by
     obtain ⟨q1, q2⟩ := plain hq
     refine ⟨⟨1, x.f2, r.f2, r.f3, r.f4, r.f5, x.f3, r.f7⟩, ev_from 3 (fun k => ?_), q1⟩
     rw [hf, hk, q2]
     rfl
    by_cases c1 : x.f3 % 2 = 1
    ·by_cases c2 : s.f6 % 2 = 0
     ·have hch := chg3 c2 c1
      by_cases c3 : s.f0 = 2
      ·obtain ⟨a1, B, b1, b2, b3, b4, b5, b6, b7⟩ := h.seg c3
       have eg : goV s x.f1 x.f2 x.f3 = (bitV ⟨s.f0, x.f2, s.f2, s.f3, s.f4, s.f5, x.f3, s.f7⟩ (x.f3 / 2), []) := goV_3 s _ _ _ c3 hch
       obtain ⟨g3, g4, g5, g7, g2⟩ := bitV_same (s := ⟨s.f0, x.f2, s.f2, s.f3, s.f4, s.f5, x.f3, s.f7⟩) (t := foldB k0 B) b4 b5 b6 b7 (x.f3 / 2)
       obtain ⟨q1, q2, q3⟩ := bitV_prev ⟨s.f0, x.f2, s.f2, s.f3, s.f4, s.f5, x.f3, s.f7⟩ (x.f3 / 2)
       have hb : x.f3 / 2 = 0 ∨ x.f3 / 2 = 1 := by omega
       have hr3 : (r.f3 == 1) = true := by rw [h.p3, if_pos c3]; rfl
       have e7 : r.f7 ++ (⟨#[UInt8.ofNat (48 + (x.f3 / 2).toNat)]⟩ : ByteArray) = strB (B ++ [x.f3 / 2]) := by rw [strB_append, b3]; rfl
       have hsz : r.f7.size + 1 ≤ 9223372036854775807 := by rw [b3, strB_size]; omega
       rw [eg] at hinv ⊢
       refine ⟨⟨1, x.f2, r.f2, r.f3, r.f4, r.f5, x.f3, strB (B ++ [x.f3 / 2])⟩, ev_from 2 (fun k => ?_), ⟨.inr (.inr (q2.trans c3)), ?_, ?_, ?_, ?_, hinv, fun _ => ⟨a1.trans g2.symm, B ++ [x.f3 / 2], ?_, ?_, rfl, ?_⟩⟩⟩
       ·rw [hf]
        simp only [r23_Step.j0, if_neg Bool.false_ne_true]
        refine (if_neg hr0).trans ?_
        rw [tv, tp]
        refine (if_pos c1).trans ((if_pos c2).trans ?_)
        rw [hr3, td]
        simp only [r23_Step.j1, if_true]
        rw [← e7]
        rcases hb with hb | hb
        ·refine (if_neg (by omega)).trans ((if_pos hsz).trans ?_)
         rw [hb]
         rfl
        ·refine (if_pos hb).trans ((if_pos hsz).trans ?_)
         rw [hb]
         rfl
       ·show (1 : Int) = _
        rw [q2, if_neg c0]
       ·exact q3.symm
       ·exact q1.symm
       ·show r.f3 = _
        rw [q2, h.p3]
       ·intro v hv
        rcases List.mem_append.mp hv with hv | hv
        ·exact b1 v hv
        ·rw [List.mem_singleton.mp hv]
         exact hb
       ·rw [List.length_append]
        show B.length + 1 ≤ n + 1
        omega
       ·rw [foldB_append]
        exact ⟨g3, g4, g5, g7⟩
      ·have hr3 : (r.f3 == 1) = false := by rw [h.p3, if_neg c3]; rfl
       refine hplain (.inr ⟨hch, c3⟩) (fun k => ?_)
       simp only [r23_Step.j0, if_neg Bool.false_ne_true]
       refine (if_neg hr0).trans ?_
       rw [tv, tp]
       refine (if_pos c1).trans ((if_pos c2).trans ?_)
       rw [hr3]
       simp only [r23_Step.j1, if_neg Bool.false_ne_true]
       refine (if_neg (by omega)).trans ((if_pos c2).trans ?_)
       rfl
     ·have c2' : s.f6 % 2 = 1 := by omega
      by_cases c4 : x.f3 / 2 = s.f6 / 2
      ·refine hplain (.inl (chg0 (.inr ⟨c2', c1, c4.symm⟩))) (fun k => ?_)
       simp only [r23_Step.j0, if_neg Bool.false_ne_true]
       refine (if_neg hr0).trans ?_
       rw [tv, tp]
       refine (if_pos c1).trans ((if_neg c2).trans ?_)
       rw [td, tq]
       simp only [r23_Step.j1, if_neg Bool.false_ne_true]
       refine (if_neg (by omega)).trans ((if_neg c2).trans ?_)
       rw [beq_iff_eq.mpr c4]
       rfl
      ·have hch := chg1 hp hv c2' c1 c4
       have hne : (x.f3 / 2 == s.f6 / 2) = false := beq_eq_false_iff_ne.mpr c4
       have hw1 : wrap64 (1 - x.f3 / 2) = 1 - x.f3 / 2 := w64 (by omega) (by omega)
       have hpre : ∀ k, r23_Step.f (k + 3) c r.f0 r.f1 r.f2 r.f3 r.f4 r.f5 r.f6 r.f7 x.f0 x.f1 x.f2 x.f3 x.f4 x.f5 x.f6 = r23_Step.j2 (k + 1) (x.f3 / 2) false r.f0 r.f1 r.f2 r.f3 r.f4 r.f5 r.f6 r.f7 x.f0 x.f1 x.f2 x.f3 x.f4 x.f5 x.f6 1 x.f2 r.f2 r.f3 r.f4 r.f5 x.f3 r.f7 := fun k => by
        rw [hf]
        simp only [r23_Step.j0, if_neg Bool.false_ne_true]
        refine (if_neg hr0).trans ?_
        rw [tv, tp]
        refine (if_pos c1).trans ((if_neg c2).trans ?_)
        rw [td, tq]
        simp only [r23_Step.j1, if_neg Bool.false_ne_true]
        refine (if_neg (by omega)).trans ((if_neg c2).trans ?_)
        rw [hne]
       have tail : ∀ y : List EvT, (if x.f3 / 2 = 0 then (some (1, x.f2, x.f1, wrap64 (1 - x.f3 / 2), r.f4, r.f5, x.f3, (⟨#[]⟩ : ByteArray), y)) else (some (1, x.f2, 0, wrap64 (1 - x.f3 / 2), r.f4, r.f5, x.f3, (⟨#[]⟩ : ByteArray), y))) = some (pk ⟨1, x.f2, if x.f3 / 2 = 0 then x.f1 else 0, 1 - x.f3 / 2, r.f4, r.f5, x.f3, ⟨#[]⟩⟩ y) := fun y => by
        rw [hw1]
        by_cases c5 : x.f3 / 2 = 0
        ·rw [if_pos c5, if_pos c5]
         rfl
        ·rw [if_neg c5, if_neg c5]
         rfl
       have hev : Ev (fun k => r23_Step.j2 k (x.f3 / 2) false r.f0 r.f1 r.f2 r.f3 r.f4 r.f5 r.f6 r.f7 x.f0 x.f1 x.f2 x.f3 x.f4 x.f5 x.f6 1 x.f2 r.f2 r.f3 r.f4 r.f5 x.f3 r.f7) (pk ⟨1, x.f2, if x.f3 / 2 = 0 then x.f1 else 0, 1 - x.f3 / 2, r.f4, r.f5, x.f3, ⟨#[]⟩⟩ (if s.f0 = 2 then [frmV s x.f1 (x.f3 / 2)] else [])) := by
        by_cases c3 : s.f0 = 2
        ·obtain ⟨a1, B, b1, b2, b3, b4, b5, b6, b7⟩ := h.seg c3
         have hsg := segment_ev b1 (by omega) b4 b6 b7 x.f1 (x.f3 / 2)
         rw [← a1, ← b3] at hsg
         rw [if_pos c3]
         have hr3 : r.f3 = 1 := by rw [h.p3, if_pos c3]
         have hfin := Ev.bind (f := fun _ (bt347 : Int × Int × Int × Int × Int × ByteArray × Int) => some (pk ⟨1, x.f2, if x.f3 / 2 = 0 then x.f1 else 0, 1 - x.f3 / 2, r.f4, r.f5, x.f3, ⟨#[]⟩⟩ [(⟨bt347.1, bt347.2.1, bt347.2.2.1, bt347.2.2.2.1, bt347.2.2.2.2.1, bt347.2.2.2.2.2.1, bt347.2.2.2.2.2.2⟩ : EvT)])) hsg (Ev.now _)
         refine Ev.step (fun k => ?_) hfin
         simp only [r23_Step.j2, if_neg Bool.false_ne_true, Option.bind_some]
         refine (if_pos hr3).trans ?_
         refine congrArg _ (funext fun bt => ?_)
         exact (if_pos (show (0 : Nat) < 2199023255552 by decide)).trans (tail _)
        ·rw [if_neg c3]
         refine ev_from 1 (fun k => ?_)
         have hr3 : ¬ r.f3 = 1 := by rw [h.p3, if_neg c3]; decide
         simp only [r23_Step.j2, if_neg Bool.false_ne_true, Option.bind_some]
         exact (if_neg hr3).trans (tail _)
       have hev2 : Ev (fun k => r23_Step.f k c r.f0 r.f1 r.f2 r.f3 r.f4 r.f5 r.f6 r.f7 x.f0 x.f1 x.f2 x.f3 x.f4 x.f5 x.f6) (pk ⟨1, x.f2, if x.f3 / 2 = 0 then x.f1 else 0, 1 - x.f3 / 2, r.f4, r.f5, x.f3, ⟨#[]⟩⟩ (if s.f0 = 2 then [frmV s x.f1 (x.f3 / 2)] else [])) := by
        obtain ⟨K, hK⟩ := hev
        refine ⟨K + 3, fun k hk => ?_⟩
        have := hpre (k - 3)
        rw [show k - 3 + 3 = k by omega] at this
        exact this.trans (hK _ (by omega))
       by_cases c5 : x.f3 / 2 = 0
       ·rw [if_pos c5] at hch
        have eg := goV_1 s x.f1 x.f2 x.f3 c0 hch
        rw [eg] at hinv ⊢
        rw [if_pos c5] at hev2
        rw [c5] at hev2
        exact ⟨_, hev2, ⟨.inr (.inr rfl), rfl, rfl, rfl, rfl, hinv, fun _ => ⟨rfl, [], fun v hv => absurd hv (by simp), Nat.zero_le _, rfl, rfl, rfl, rfl, rfl⟩⟩⟩
       ·rw [if_neg c5] at hch
        have eg := goV_2 s x.f1 x.f2 x.f3 c0 hch
        have c6 : x.f3 / 2 = 1 := by omega
        rw [eg] at hinv ⊢
        rw [if_neg c5] at hev2
        rw [c6] at hev2
        exact ⟨_, hev2, ⟨.inr (.inl rfl), rfl, rfl, rfl, rfl, hinv, fun hh => absurd hh (by decide : ¬ (1 : Int) = 2)⟩⟩
    ·refine hplain (.inl (chg0 (.inl (by omega)))) (fun k => ?_)
     simp only [r23_Step.j0, if_neg Bool.false_ne_true]
     refine (if_neg hr0).trans ?_
     rw [tv, tp]
     refine (if_neg c1).trans ?_
     simp only [r23_Step.j1, if_neg Bool.false_ne_true]
     refine (if_pos (by omega)).trans ?_
     rfl
  ·obtain ⟨r', h1, h2⟩ := hno (fun hh => ha hh.2)
   refine ⟨r', Ev.congr (fun k => ?_) h1, h2⟩
   unfold r23_Step.f
   rw [(check_eq c).2, Option.bind_some, check_ok hc, if_pos rfl, accepts_eq, Option.bind_some, decide_eq_false (fun hh => ha ((rel_acc h x).mp hh))]
   rfl
 ·obtain ⟨r', h1, h2⟩ := hno (fun hh => hc hh.1)
  refine ⟨r', Ev.congr (fun k => ?_) h1, h2⟩
  unfold r23_Step.f
  rw [(check_eq c).2, Option.bind_some, check_no hc, if_neg (by decide)]
theorem ref_end {c : Int} {n : Nat} {s r : StT} (h : Rel n s r) : r23_End.f c r.f0 r.f1 r.f2 r.f3 r.f4 r.f5 r.f6 r.f7 = some (endV c s) := by
 unfold r23_End.f endV
 rw [(check_eq c).2, Option.bind_some]
 by_cases hc : okC c
 ·rw [check_ok hc, if_pos rfl, h.p3, h.p1]
  by_cases h2 : s.f0 = 2
  ·rw [if_pos h2, if_neg (by decide), if_pos ⟨hc, h2⟩, (h.seg h2).1]
  ·rw [if_neg h2, if_pos rfl, if_neg (fun hh => h2 hh.2)]
 ·rw [check_no hc, if_neg (by decide), if_neg (fun hh => hc hh.1)]
theorem refdec_l0 {c : Int} : ∀ (post pre out : List EvT) (n : Nat) (s r : StT), Rel n s r → n + post.length ≤ 1099511627776 → out.length + post.length + 1 < 2199023255552 → (pre ++ post).length ≤ 1099511627776 →
  Ev (fun k => r23_Decode.l0 k (pre ++ post) out (pre.length : Int) c r.f0 r.f1 r.f2 r.f3 r.f4 r.f5 r.f6 r.f7) (out ++ ((runV c s post).2 ++ endV c (runV c s post).1))
 | [], pre, out, n, s, r, hs, hn', ho, hl => by
  have hz := endV_len c s
  refine Ev.step (f := fun _ => some (out ++ endV c s)) (fun k => ?_) (Ev.now _)
  simp only [r23_Decode.l0]
  rw [if_neg (by simp), ref_end hs, Option.bind_some, if_pos (by simp only [List.length_nil] at ho; omega)]
 | x :: post, pre, out, n, s, r, hs, hn', ho, hl => by
  have hlt := midl_lt pre post x
  have hn : pre.length ≤ 9223372036854775806 := by
   simp only [List.length_append, List.length_cons] at hl
   omega
  have h1 := stepV_len c s x
  simp only [List.length_cons] at ho hn'
  obtain ⟨r', hst, hrel⟩ := ref_step (c := c) hs (by omega) x
  have ih := refdec_l0 (c := c) post (pre ++ [x]) (out ++ (stepV c s x).2) (n + 1) (stepV c s x).1 r' hrel (by omega) (by rw [List.length_append]; omega) (by simpa using hl)
  rw [← mid_snoc] at ih
  have er : out ++ (stepV c s x).2 ++ ((runV c (stepV c s x).1 post).2 ++ endV c (runV c (stepV c s x).1 post).1) = out ++ ((runV c s (x :: post)).2 ++ endV c (runV c s (x :: post)).1) := by
   simp only [runV, List.append_assoc]
  rw [er] at ih
  have hg : out.length + (stepV c s x).2.length < 2199023255552 := by omega
  have hb := Ev.bind (f := fun k (bt377 : Int × Int × Int × Int × Int × Int × Int × ByteArray × List EvT) => if out.length + bt377.2.2.2.2.2.2.2.2.length < 2199023255552 then r23_Decode.l0 k (pre ++ x :: post) (out ++ bt377.2.2.2.2.2.2.2.2) (wrap64 ((pre.length : Int) + 1)) c bt377.1 bt377.2.1 bt377.2.2.1 bt377.2.2.2.1 bt377.2.2.2.2.1 bt377.2.2.2.2.2.1 bt377.2.2.2.2.2.2.1 bt377.2.2.2.2.2.2.2.1 else none) hst (Ev.congr (fun k => (if_pos hg).trans (by rw [succ_mid _ _ hn]; rfl)) ih)
  refine Ev.step (fun k => ?_) hb
  simp only [r23_Decode.l0]
  rw [if_pos hlt, if_pos (by omega), rdE_mid]
theorem refdec_ev (c : Int) {l : List EvT} (hl : l.length ≤ 262144) : Ev (fun k => r23_Decode.f k c l) (decV c l) := by
 have h := refdec_l0 (c := c) l [] [] 0 z0 z0 rel_z (by omega) (by simp only [List.length_nil]; omega) (by simp only [List.nil_append]; omega)
 exact Ev.congr (fun k => rfl) h
theorem refput3 {k : Nat} {o : List RunT} (h : OkR k o) (hk : k ≤ 900000000) {T v : Int} (hT : tOk T) (hv : v = 0 ∨ v = 1) : (r23_put.f o 0 v T).bind (fun t => (r23_put.f t 1 v (wrap64 (2 * T))).bind fun t2 => r23_put.f t2 0 v T) = some (puts o (rawBit T v)) := by
 obtain ⟨e, h1, h2, h3⟩ := three_puts h (rawBit_ok hT hv)
 unfold tOk at hT
 have b : 0 ≤ v ∧ v ≤ 1 := by omega
 have e0 : (⟨0 + 2 * v, T⟩ : RunT) = ⟨2 * v, T⟩ := by rw [Int.zero_add]
 have e1 : (⟨1 + 2 * v, 2 * T⟩ : RunT) = ⟨2 * v + 1, 2 * T⟩ := by rw [Int.add_comm]
 rw [w64 (x := 2 * T) (by omega) (by omega), refput_eq h (by omega) (by decide) b (by omega), Option.bind_some, e0, refput_eq h1 (by omega) (by decide) b (by omega), Option.bind_some, e1, refput_eq h2 (by omega) (by decide) b (by omega), e0]
 rfl
theorem putByte_step {k K : Nat} {o : List RunT} (h : OkR K o) (hK : K ≤ 900000000) {T b ack w i : Int} (hT : tOk T) (hb : 0 ≤ b ∧ b ≤ 255) (hw : 1 ≤ w ∧ w ≤ 128) (hi : 0 ≤ i ∧ i < 8) :
  r23_putByte.l0 (k + 1) o b ack w i T = r23_putByte.l0 k (puts o (rawBit T (b / w % 2))) b ack (if w / 2 = 0 then 1 else w / 2) (i + 1) T := by
 have hd : Int.tdiv b w = b / w := Int.tdiv_eq_ediv_of_nonneg hb.1
 have hq : 0 ≤ b / w := Int.ediv_nonneg hb.1 (by omega)
 have hq2 : b / w ≤ 255 := Int.le_trans (Int.ediv_le_self _ hb.1) hb.2
 have e1 : Int.tmod (wrap64 (Int.tdiv b w)) 2 = b / w % 2 := by rw [hd, w64 (by omega) (by omega)]; exact Int.tmod_eq_emod_of_nonneg hq
 have e2 : wrap64 (Int.tdiv w 2) = w / 2 := by rw [Int.tdiv_eq_ediv_of_nonneg (by omega)]; exact w64 (by omega) (by omega)
 have e3 : wrap64 (i + 1) = i + 1 := w64 (by omega) (by omega)
 have h3 := refput3 h hK hT (v := b / w % 2) (by omega)
 have fin : ∀ w' : Int, ((r23_put.f o 0 (b / w % 2) T).bind fun t471 => ((r23_put.f t471 1 (b / w % 2) (wrap64 (2 * T))).bind fun t474 => ((r23_put.f t474 0 (b / w % 2) T).bind fun t477 => (r23_putByte.l0 k t477 b ack w' (i + 1) T)))) = r23_putByte.l0 k (puts o (rawBit T (b / w % 2))) b ack w' (i + 1) T := fun w' => by
  have := congrArg (fun z => z.bind fun t => r23_putByte.l0 k t b ack w' (i + 1) T) h3
  simp only [Option.bind_assoc, Option.bind_some] at this
  exact this
 simp only [r23_putByte.l0]
 rw [e1, e2, e3]
 refine (if_pos (by omega)).trans ((if_pos hi.2).trans ((if_neg (by omega)).trans ?_))
 by_cases c : w / 2 = 0
 ·rw [if_pos c, if_pos c]
  exact fin 1
 ·rw [if_neg c, if_neg c]
  exact fin _
theorem putByte_at {K : Nat} {o : List RunT} (h : OkR K o) (hK : K ≤ 800000000) {T b ack : Int} (hT : tOk T) (hb : 0 ≤ b ∧ b ≤ 255) (ha : ack = 0 ∨ ack = 1) (k : Nat) : r23_putByte.f (k + 10) T o b ack = some (puts o (rawByte T b ack)) := by
 have ok : ∀ {j : Nat} {o : List RunT} {v : Int}, OkR j o → (v = 0 ∨ v = 1) → OkR (j + 3) (puts o (rawBit T v)) := fun hj hv => puts_ok _ hj (rawBit_ok hT hv)
 have md : ∀ w : Int, b / w % 2 = 0 ∨ b / w % 2 = 1 := fun w => by omega
 have k1 := ok h (md 128)
 have k2 := ok k1 (md 64)
 have k3 := ok k2 (md 32)
 have k4 := ok k3 (md 16)
 have k5 := ok k4 (md 8)
 have k6 := ok k5 (md 4)
 have k7 := ok k6 (md 2)
 have k8 := ok k7 (md 1)
 have st : ∀ {j k : Nat} {o : List RunT} (w w' i : Int), OkR j o → j ≤ 900000000 → (1 ≤ w ∧ w ≤ 128) → (0 ≤ i ∧ i < 8) → (if w / 2 = 0 then 1 else w / 2) = w' → r23_putByte.l0 (k + 1) o b ack w i T = r23_putByte.l0 k (puts o (rawBit T (b / w % 2))) b ack w' (i + 1) T := fun w w' i hj hk hw hi e => by rw [putByte_step hj hk hT hb hw hi, e]
 have h3 := refput3 k8 (by omega) hT ha
 have fin : r23_putByte.l0 (k + 2) (puts (puts (puts (puts (puts (puts (puts (puts o (rawBit T (b / 128 % 2))) (rawBit T (b / 64 % 2))) (rawBit T (b / 32 % 2))) (rawBit T (b / 16 % 2))) (rawBit T (b / 8 % 2))) (rawBit T (b / 4 % 2))) (rawBit T (b / 2 % 2))) (rawBit T (b / 1 % 2))) b ack 1 8 T = some (puts (puts (puts (puts (puts (puts (puts (puts (puts o (rawBit T (b / 128 % 2))) (rawBit T (b / 64 % 2))) (rawBit T (b / 32 % 2))) (rawBit T (b / 16 % 2))) (rawBit T (b / 8 % 2))) (rawBit T (b / 4 % 2))) (rawBit T (b / 2 % 2))) (rawBit T (b / 1 % 2))) (rawBit T ack)) := by
  generalize puts (puts (puts (puts (puts (puts (puts (puts o (rawBit T (b / 128 % 2))) (rawBit T (b / 64 % 2))) (rawBit T (b / 32 % 2))) (rawBit T (b / 16 % 2))) (rawBit T (b / 8 % 2))) (rawBit T (b / 4 % 2))) (rawBit T (b / 2 % 2))) (rawBit T (b / 1 % 2)) = z at h3
  have h4 := congrArg (fun z => z.bind fun t => r23_putByte.l0 (k + 1) t b ack 1 9 T) h3
  simp only [Option.bind_assoc, Option.bind_some] at h4
  have e9 : r23_putByte.l0 (k + 1) (puts z (rawBit T ack)) b ack 1 9 T = some (puts z (rawBit T ack)) := by
   simp only [r23_putByte.l0]
   exact if_neg (by decide)
  rw [e9] at h4
  rw [r23_putByte.l0]
  refine (if_pos (by decide)).trans ((if_neg (by decide)).trans ?_)
  rw [show wrap64 (8 + 1) = 9 from w64 (by decide) (by decide)]
  exact h4
 have e : puts o (rawByte T b ack) = puts (puts (puts (puts (puts (puts (puts (puts (puts o (rawBit T (b / 128 % 2))) (rawBit T (b / 64 % 2))) (rawBit T (b / 32 % 2))) (rawBit T (b / 16 % 2))) (rawBit T (b / 8 % 2))) (rawBit T (b / 4 % 2))) (rawBit T (b / 2 % 2))) (rawBit T (b / 1 % 2))) (rawBit T ack) := by
  rw [Int.ediv_one]
  unfold rawByte bits8
  simp only [List.cons_append, List.nil_append, rawBits, List.append_nil, puts_append]
 rw [e, ← fin]
 unfold r23_putByte.f
 rw [st (k := k + 9) 128 64 0 h (by omega) (by decide) (by decide) (by decide)]
 rw [st (k := k + 8) 64 32 (0 + 1) k1 (by omega) (by decide) (by decide) (by decide)]
 rw [st (k := k + 7) 32 16 (0 + 1 + 1) k2 (by omega) (by decide) (by decide) (by decide)]
 rw [st (k := k + 6) 16 8 (0 + 1 + 1 + 1) k3 (by omega) (by decide) (by decide) (by decide)]
 rw [st (k := k + 5) 8 4 (0 + 1 + 1 + 1 + 1) k4 (by omega) (by decide) (by decide) (by decide)]
 rw [st (k := k + 4) 4 2 (0 + 1 + 1 + 1 + 1 + 1) k5 (by omega) (by decide) (by decide) (by decide)]
 rw [st (k := k + 3) 2 1 (0 + 1 + 1 + 1 + 1 + 1 + 1) k6 (by omega) (by decide) (by decide) (by decide)]
 rw [st (k := k + 2) 1 1 (0 + 1 + 1 + 1 + 1 + 1 + 1 + 1) k7 (by omega) (by decide) (by decide) (by decide)]
 rfl
theorem send_l0 {T value : Int} (hT : tOk T) (hv : 0 ≤ value ∧ value ≤ 255) (d : ByteArray) (hd : d.size ≤ 4096) (gap aux flt : Int) : ∀ (n i K : Nat) (o : List RunT), OkR K o → i + n = d.size → K + 27 * n ≤ 600000000 →
  Ev (fun k => r23_send.l0 k o (i : Int) T gap value aux d flt) (puts (puts o (rawData T value (d.toList.drop i))) (stopR T ⟨gap, value, aux, d, flt⟩))
 | 0, i, K, o, h, hi, hk => by
  have hT' := hT
  unfold tOk at hT'
  rw [List.drop_of_length_le (by rw [(toList_eq d).2.2]; omega)]
  refine ev_from 1 (fun k => ?_)
  simp only [r23_send.l0]
  refine (if_neg (by omega)).trans ?_
  unfold stopR
  by_cases c : aux = 1
  ·have k6 := putP_ok h (r := ⟨0, T⟩) (r_ok (by omega) (by decide))
   have k7 := putP_ok k6 (r := ⟨1, T⟩) (r_ok (by omega) (by decide))
   rw [if_pos c, if_pos c, refput_eq h (by omega) (by decide) (by decide) (by omega), Option.bind_some, show (0 : Int) + 2 * 0 = 0 from rfl, refput_eq k6 (by omega) (by decide) (by decide) (by omega), Option.bind_some, show (1 : Int) + 2 * 0 = 1 from rfl, w64 (x := 4 * T) (by omega) (by omega), refput_eq k7 (by omega) (by decide) (by decide) (by omega), Option.bind_some]
   rfl
  ·rw [if_neg c, if_neg c]
   rfl
 | n + 1, i, K, o, h, hi, hk => by
  have hlt : i < d.size := by omega
  have hb := bt_range d (i : Int)
  have hz : (d.toList.drop (i + 1) = []) ↔ n = 0 := by
   rw [List.drop_eq_nil_iff, (toList_eq d).2.2]
   omega
  have q1 : (i : Int) < (d.size : Int) := by omega
  have q2 : (0 : Int) ≤ (i : Int) := by omega
  have q3 : n = 0 → (i : Int) = (d.size : Int) - 1 := fun h => by omega
  have q4 : (i : Int) = (d.size : Int) - 1 → n = 0 := fun h => by omega
  have h3 := puts_ok (rawByte T (bt d (i : Int)) (if d.toList.drop (i + 1) = [] ∧ value % 2 = 1 then 1 else 0)) h (rawByte_ok hT (by split <;> simp))
  rw [rawByte_len] at h3
  have ih := send_l0 hT hv d hd gap aux flt n (i + 1) _ _ h3 (by omega) (by omega)
  have er : puts (puts (puts o (rawByte T (bt d (i : Int)) (if d.toList.drop (i + 1) = [] ∧ value % 2 = 1 then 1 else 0))) (rawData T value (d.toList.drop (i + 1)))) (stopR T ⟨gap, value, aux, d, flt⟩) = puts (puts o (rawData T value (d.toList.drop i))) (stopR T ⟨gap, value, aux, d, flt⟩) := by
   rw [drop_byte d hlt, bt_byte d hlt, ← puts_append o]
   rfl
  rw [er] at ih
  have hpb : ∀ ack : Int, (ack = 0 ∨ ack = 1) → ∀ k, 10 ≤ k → r23_putByte.f k T o (bt d (i : Int)) ack = some (puts o (rawByte T (bt d (i : Int)) ack)) := fun ack ha k hk10 => by
   have := putByte_at h (by omega) hT hb ha (k - 10)
   rwa [show k - 10 + 10 = k by omega] at this
  have z1 : -9223372036854775808 ≤ (d.size : Int) - 1 ∧ (d.size : Int) - 1 ≤ 9223372036854775807 := ⟨by omega, by omega⟩
  have z2 : -9223372036854775808 ≤ bt d (i : Int) ∧ bt d (i : Int) ≤ 9223372036854775807 := ⟨by omega, by omega⟩
  have z3 : -9223372036854775808 ≤ (i : Int) + 1 ∧ (i : Int) + 1 ≤ 9223372036854775807 := ⟨by omega, by omega⟩
  have z4 : (i : Int) + 1 = ((i + 1 : Nat) : Int) := by omega
  have tv : Int.tmod value 2 = value % 2 := Int.tmod_eq_emod_of_nonneg hv.1
  have e1 : wrap64 ((d.size : Int) - 1) = (d.size : Int) - 1 := w64 z1.1 z1.2
  have e2 : wrap64 (bt d (i : Int)) = bt d (i : Int) := w64 z2.1 z2.2
  have e3 : wrap64 ((i : Int) + 1) = ((i + 1 : Nat) : Int) := (w64 z3.1 z3.2).trans z4
  refine ev_step 10 (fun k hk10 => ?_) ih
  rw [r23_send.l0]
  refine (if_pos q1).trans ?_
  rw [e1, e2, e3, tv]
  by_cases c0 : n = 0
  ·refine (if_pos (q3 c0)).trans ?_
   by_cases c1 : value % 2 = 1
   ·refine (if_pos c1).trans ((if_pos q2).trans ?_)
    rw [hpb 1 (.inr rfl) k hk10, Option.bind_some, if_pos ⟨hz.mpr c0, c1⟩]
   ·refine (if_neg c1).trans ((if_pos q2).trans ?_)
    rw [hpb 0 (.inl rfl) k hk10, Option.bind_some, if_neg (fun hh => c1 hh.2)]
  ·refine (if_neg (fun hh => c0 (q4 hh))).trans ((if_pos q2).trans ?_)
   rw [hpb 0 (.inl rfl) k hk10, Option.bind_some, if_neg (fun hh => c0 (hz.mp hh.1))]
theorem send_ev {K : Nat} {o : List RunT} (h : OkR K o) (hk : K ≤ 400000000) {T : Int} (hT : tOk T) {x : ItT} (hx : ItemOk x) (b : Bool) : Ev (fun k => r23_send.f k T o x.f0 x.f1 x.f2 x.f3 x.f4 b) (puts o (rawItem T x b)) := by
 have hfo := front_ok hT hx.2 b
 have hfl := front_len T x b
 obtain ⟨⟨g0, g1, g3, g4, g5, g6⟩, hg⟩ := hx
 have hT' := hT
 unfold tOk at hT'
 have k1 := puts_ok _ h hfo
 have k2 := putP_ok k1 (r := ⟨1, T⟩) (r_ok (by omega) (by decide))
 have k3 := putP_ok k2 (r := ⟨0, T⟩) (r_ok (by omega) (by decide))
 have k4 := puts_ok (rawByte T x.f1 (if x.f4 = 10 then 1 else 0)) k3 (rawByte_ok hT (by split <;> simp))
 rw [rawByte_len] at k4
 have hl := send_l0 hT g1 x.f3 g4 x.f0 x.f2 x.f4 x.f3.size 0 _ _ k4 (by omega) (by omega)
 have ed : x.f3.toList.drop 0 = x.f3.toList := rfl
 rw [ed] at hl
 have er : puts (puts (puts (putP (putP (puts o (frontR T x b)) ⟨1, T⟩) ⟨0, T⟩) (rawByte T x.f1 (if x.f4 = 10 then 1 else 0))) (rawData T x.f1 x.f3.toList)) (stopR T ⟨x.f0, x.f1, x.f2, x.f3, x.f4⟩) = puts o (rawItem T x b) := by
  unfold rawItem bodyR
  rw [puts_append, puts_append, puts_append, puts_append]
  rfl
 rw [er] at hl
 have hj1 : Ev (fun k => r23_send.j1 k (putP (putP (puts o (frontR T x b)) ⟨1, T⟩) ⟨0, T⟩) (if x.f4 = 10 then 1 else 0) T x.f0 x.f1 x.f2 x.f3 x.f4) (puts o (rawItem T x b)) := by
  refine ev_step 10 (fun k hk10 => ?_) hl
  rw [r23_send.j1]
  have := putByte_at k3 (by omega) hT g1 (ack := if x.f4 = 10 then 1 else 0) (by split <;> simp) (k - 10)
  rw [show k - 10 + 10 = k by omega] at this
  rw [this, Option.bind_some]
  rfl
 have hj0 : Ev (fun k => r23_send.j0 k (puts o (frontR T x b)) T x.f0 x.f1 x.f2 x.f3 x.f4) (puts o (rawItem T x b)) := by
  refine Ev.step (fun k => ?_) hj1
  rw [r23_send.j0]
  rw [refput_eq k1 (by omega) (by decide) (by decide) (by omega), Option.bind_some, show (1 : Int) + 2 * 0 = 1 from rfl, refput_eq k2 (by omega) (by decide) (by decide) (by omega), Option.bind_some, show (0 : Int) + 2 * 0 = 0 from rfl]
  by_cases c : x.f4 = 10
  ·rw [if_pos c, if_pos c]
  ·rw [if_neg c, if_neg c]
 refine Ev.congr (fun k => ?_) hj0
 unfold r23_send.f frontR
 by_cases c : b = true
 ·rw [if_pos c, if_pos c, refput_eq h (by omega) (by decide) (by decide) (by omega), Option.bind_some]
  rfl
 ·have h1 := putP_ok h (r := ⟨0, x.f0⟩) (r_ok (by omega) (by decide))
  have h2 := putP_ok h1 (r := ⟨2, T⟩) (r_ok (by omega) (by decide))
  rw [if_neg c, if_neg c, refput_eq h (by omega) (by decide) (by decide) (by omega), Option.bind_some, show (0 : Int) + 2 * 0 = 0 from rfl, refput_eq h1 (by omega) (by decide) (by decide) (by omega), Option.bind_some, show (0 : Int) + 2 * 1 = 2 from rfl, refput_eq h2 (by omega) (by decide) (by decide) (by omega), Option.bind_some]
  rfl
theorem renc_l2 {o : List RunT} (ho : ∀ r ∈ o, 1 ≤ r.f1) (hs : sumT o ≤ 9223372036854775807) : ∀ (post pre : List RunT), o = pre ++ post → o.length ≤ 262144 → Ev (fun k => r23_Encode.l2 k o (sumT pre) (pre.length : Int)) (if sumT o > 1099511627776 then ([], 2) else (o, 0))
 | [], pre, hw, hl => by
  rw [List.append_nil] at hw
  subst hw
  refine ev_from 1 (fun k => ?_)
  rw [r23_Encode.l2]
  refine (if_neg (Int.lt_irrefl _)).trans ?_
  by_cases c : sumT o > 1099511627776
  ·rw [if_pos c, if_pos c]
  ·rw [if_neg c, if_neg c]
 | r :: post, pre, hw, hl => by
  have hlt : (pre.length : Int) < (o.length : Int) := by rw [hw]; exact midl_lt pre post r
  have hx : rd_T53 o (pre.length : Int) = r := by rw [hw]; exact rdR_mid pre post r
  have es : sumT (pre ++ [r]) = sumT pre + r.f1 := by rw [sumT_append]; simp [sumT]
  have p1 := sum_nonneg (fun y hy => ho y (by rw [hw]; exact List.mem_append_left _ hy) : ∀ y ∈ pre, 1 ≤ y.f1)
  have p2 := sum_nonneg (fun y hy => ho y (by rw [hw]; exact List.mem_append_right _ (.tail _ hy)) : ∀ y ∈ post, 1 ≤ y.f1)
  have p3 : sumT o = sumT pre + (r.f1 + sumT post) := by rw [hw, sumT_append]; rfl
  have p4 := ho r (by rw [hw]; simp)
  have hpl : pre.length ≤ 262144 := by
   rw [hw, List.length_append] at hl
   omega
  have ew : wrap64 (sumT pre + r.f1) = sumT (pre ++ [r]) := by rw [es, w64 (by omega) (by omega)]
  have ei : wrap64 ((pre.length : Int) + 1) = ((pre ++ [r]).length : Int) := by
   rw [w64 (by omega) (by omega)]
   simp
  have ih := renc_l2 ho hs post (pre ++ [r]) (by rw [hw]; simp) hl
  refine Ev.step (fun k => ?_) ih
  rw [r23_Encode.l2, hx, ew, ei]
  exact (if_pos hlt).trans (if_pos (Int.natCast_nonneg _))
theorem renc_l1 {T : Int} (hT : tOk T) {L : List ItT} (hL : L.length ≤ 1024) : ∀ (post pre : List ItT) (b : Bool) (K : Nat) (o : List RunT), L = pre ++ post → OkR K o → (∀ x ∈ post, ItemOk x) → K + 110627 * post.length ≤ 400000000 →
  Ev (fun k => r23_Encode.l1 k L o b (pre.length : Int) T) (if (puts o (rawAll T b post)).length > 262144 then ([], 6) else if sumT (puts o (rawAll T b post)) > 1099511627776 then ([], 2) else (puts o (rawAll T b post), 0))
 | [], pre, b, K, o, hw, h, hx, hk => by
  have e : puts o (rawAll T b []) = o := rfl
  rw [e]
  have hpl : ¬ ((pre.length : Int) < (L.length : Int)) := by rw [hw]; simp
  by_cases c : o.length > 262144
  ·refine ev_from 1 (fun k => ?_)
   rw [if_pos c, r23_Encode.l1]
   exact (if_neg hpl).trans (if_pos (Int.ofNat_lt.mpr c))
  ·rw [if_neg c]
   have hs : sumT o ≤ 9223372036854775807 := by
    have := h.2.1
    omega
   have h2 := renc_l2 (fun r hr => (h.2.2 r hr).1) hs o [] rfl (by omega)
   refine Ev.step (fun k => ?_) h2
   rw [r23_Encode.l1]
   exact (if_neg hpl).trans (if_neg (fun hh => c (Int.ofNat_lt.mp hh)))
 | x :: post, pre, b, K, o, hw, h, hx, hk => by
  have hlt : (pre.length : Int) < (L.length : Int) := by rw [hw]; exact midl_lt pre post x
  have hr : rd_T49 L (pre.length : Int) = x := by rw [hw]; exact rdI_mid pre post x
  have hxx := hx x (.head _)
  have hpl : pre.length ≤ 1024 := by
   rw [hw, List.length_append] at hL
   omega
  have ei : wrap64 ((pre.length : Int) + 1) = ((pre ++ [x]).length : Int) := by
   rw [w64 (by omega) (by omega)]
   simp
  simp only [List.length_cons] at hk
  have h1 := puts_ok _ h (item_ok hT hxx.2 b)
  have hlen := item_len T hxx.1.2.2.2.1 b
  have h2 : OkR (K + 110627) (puts o (rawItem T x b)) := ⟨Nat.le_trans h1.1 (by omega), Int.le_trans h1.2.1 (by omega), h1.2.2⟩
  have ih := renc_l1 hT hL post (pre ++ [x]) (x.f2 == 1) (K + 110627) (puts o (rawItem T x b)) (by rw [hw]; simp) h2 (fun y hy => hx y (.tail _ hy)) (by omega)
  rw [← puts_append] at ih
  have hb := Ev.bind (f := fun k (t550 : List RunT) => r23_Encode.l1 k L t550 (x.f2 == 1) ((pre ++ [x]).length : Int) T) (send_ev h (by omega) hT hxx b) ih
  refine Ev.step (fun k => ?_) hb
  rw [r23_Encode.l1, hr, ei]
  exact (if_pos hlt).trans (if_pos (Int.natCast_nonneg _))
theorem renc_l0 {T : Int} (hc : okC T) {L : List ItT} (hL : L.length ≤ 1024) : ∀ (post pre : List ItT), L = pre ++ post → (chkA L.length pre.length post = 0 → chkA L.length 0 L = 0) →
  Ev (fun k => r23_Encode.l0 k L (pre.length : Int) T) (if chkA L.length pre.length post = 0 then (if (outV T L).length > 262144 then ([], 6) else if sumT (outV T L) > 1099511627776 then ([], 2) else (outV T L, 0)) else ([], chkA L.length pre.length post))
 | [], pre, hw, hchk => by
  have hpl : ¬ ((pre.length : Int) < (L.length : Int)) := by rw [hw]; simp
  obtain ⟨h1, h2⟩ := chkA_ok L 0 true (by omega) (hchk rfl) (fun _ => rfl)
  have hT' := hc
  unfold okC at hT'
  have h0 : OkR 1 [⟨3, 4 * T⟩] := by
   refine ⟨Nat.le_refl _, by simp only [sumT]; omega, fun y hy => ?_⟩
   rw [List.mem_singleton.mp hy]
   exact ⟨by show 1 ≤ 4 * T; omega, by show (0 : Int) ≤ 3; decide, by show (3 : Int) ≤ 3; decide⟩
  have hl1 := renc_l1 (T := T) hc hL L [] true 1 [⟨3, 4 * T⟩] rfl h0 h1 (by omega)
  have hp := refput_eq (k := 0) (o := []) ⟨Nat.le_refl _, by simp [sumT], fun y hy => absurd hy (by simp)⟩ (by omega) (a := 1) (b := 1) (n := 4 * T) (by decide) (by decide) (by omega)
  have e0 : putP [] ⟨1 + 2 * 1, 4 * T⟩ = [⟨3, 4 * T⟩] := by
   unfold putP
   rw [if_neg (by show ¬ 4 * T < 1; omega)]
   rfl
  rw [e0] at hp
  have hw4 : wrap64 (4 * T) = 4 * T := w64 (by omega) (by omega)
  have er : chkA L.length pre.length [] = 0 := rfl
  rw [if_pos er]
  refine Ev.step (fun k => ?_) hl1
  rw [r23_Encode.l0]
  refine (if_neg hpl).trans ?_
  rw [hw4, hp, Option.bind_some]
  rfl
 | x :: post, pre, hw, hchk => by
  have hlt : (pre.length : Int) < (L.length : Int) := by rw [hw]; exact midl_lt pre post x
  have hr : rd_T49 L (pre.length : Int) = x := by rw [hw]; exact rdI_mid pre post x
  have hpl : pre.length ≤ 1024 := by
   rw [hw, List.length_append] at hL
   omega
  have hLp : 1 ≤ L.length := by rw [hw, List.length_append, List.length_cons]; omega
  have ei : wrap64 ((pre.length : Int) + 1) = ((pre ++ [x]).length : Int) := by
   rw [w64 (by omega) (by omega)]
   simp
  have e1 : wrap64 ((L.length : Int) - 1) = (L.length : Int) - 1 := w64 (by omega) (by omega)
  have hri : ∀ k, 3 ≤ k → r23_right.f k x.f0 x.f1 x.f2 x.f3 x.f4 ((pre.length : Int) == (L.length : Int) - 1) = some (chkV x ((pre.length : Int) == (L.length : Int) - 1)) := fun k hk => by
   have := right_item (k - 3) x ((pre.length : Int) == (L.length : Int) - 1)
   rwa [show k - 3 + 3 = k by omega] at this
  rw [chkA] at hchk ⊢
  by_cases c : chkV x ((pre.length : Int) == (L.length : Int) - 1) = 0
  ·rw [if_pos c] at hchk ⊢
   have elen : (pre ++ [x]).length = pre.length + 1 := by simp
   have ih := renc_l0 hc hL post (pre ++ [x]) (by rw [hw]; simp) (by rw [elen]; exact hchk)
   rw [elen] at ih
   refine ev_step 3 (fun k hk => ?_) ih
   rw [r23_Encode.l0, hr, ei, e1, elen]
   refine (if_pos hlt).trans ((if_pos (Int.natCast_nonneg _)).trans ?_)
   rw [hri k hk, Option.bind_some]
   exact if_pos c
  ·rw [if_neg c] at hchk ⊢
   rw [if_neg c]
   refine ev_from 4 (fun k => ?_)
   rw [r23_Encode.l0, hr, ei, e1]
   refine (if_pos hlt).trans ((if_pos (Int.natCast_nonneg _)).trans ?_)
   rw [hri (k + 3) (by omega), Option.bind_some]
   exact if_neg c
theorem renc_ev (T : Int) (L : List ItT) : Ev (fun k => r23_Encode.f k T L) (encV T L) := by
 unfold encV
 by_cases hc : okC T
 ·rw [if_pos hc]
  by_cases hl : L.length > 1024
  ·rw [if_pos hl]
   refine ev_from 0 (fun k => ?_)
   unfold r23_Encode.f
   rw [(check_eq T).2, Option.bind_some, check_ok hc, if_pos rfl, if_pos (by omega)]
  ·rw [if_neg hl]
   have h := renc_l0 hc (L := L) (by omega) L [] rfl (fun h => h)
   refine Ev.congr (fun k => ?_) h
   unfold r23_Encode.f
   rw [(check_eq T).2, Option.bind_some, check_ok hc, if_pos rfl, if_neg (by omega)]
   rfl
 ·rw [if_neg hc]
  refine ev_from 0 (fun k => ?_)
  unfold r23_Encode.f
  rw [(check_eq T).2, Option.bind_some, check_no hc, if_neg (by decide)]
theorem levels_l0 {o : List RunT} (ho : ∀ r ∈ o, 1 ≤ r.f1) (hs : sumT o ≤ 1099511627776) (hl : o.length ≤ 262144) : ∀ (post pre : List RunT), o = pre ++ post → Ev (fun k => r23_Levels.l0 k o (levV 0 pre) (sumT pre) (pre.length : Int)) (levV 0 o)
 | [], pre, hw => by
  rw [List.append_nil] at hw
  subst hw
  refine ev_from 1 (fun k => ?_)
  rw [r23_Levels.l0]
  exact if_neg (Int.lt_irrefl _)
 | r :: post, pre, hw => by
  have hlt : (pre.length : Int) < (o.length : Int) := by rw [hw]; exact midl_lt pre post r
  have hx : rd_T53 o (pre.length : Int) = r := by rw [hw]; exact rdR_mid pre post r
  have es : sumT (pre ++ [r]) = sumT pre + r.f1 := by rw [sumT_append]; simp [sumT]
  have p1 := sum_nonneg (fun y hy => ho y (by rw [hw]; exact List.mem_append_left _ hy) : ∀ y ∈ pre, 1 ≤ y.f1)
  have p2 := sum_nonneg (fun y hy => ho y (by rw [hw]; exact List.mem_append_right _ (.tail _ hy)) : ∀ y ∈ post, 1 ≤ y.f1)
  have p3 : sumT o = sumT pre + (r.f1 + sumT post) := by rw [hw, sumT_append]; rfl
  have p4 := ho r (by rw [hw]; simp)
  have hpl : pre.length ≤ 262144 := by
   rw [hw, List.length_append] at hl
   omega
  have ew : wrap64 (sumT pre + r.f1) = sumT (pre ++ [r]) := by rw [es, w64 (by omega) (by omega)]
  have ei : wrap64 ((pre.length : Int) + 1) = ((pre ++ [r]).length : Int) := by
   rw [w64 (by omega) (by omega)]
   simp
  have hq : (levV 0 pre).length < 2199023255552 := by
   rw [levV_len]
   omega
  have el : levV 0 (pre ++ [r]) = levV 0 pre ++ [(⟨1, sumT pre, sumT (pre ++ [r]), r.f0, 0, ⟨#[]⟩, 0⟩ : EvT)] := by
   rw [levV_append, Int.zero_add, es]
   rfl
  have ih := levels_l0 ho hs hl post (pre ++ [r]) (by rw [hw]; simp)
  refine Ev.step (fun k => ?_) ih
  rw [r23_Levels.l0, hx, ew, ei, el]
  exact (if_pos hlt).trans ((if_pos (Int.natCast_nonneg _)).trans (if_pos hq))
theorem levels_ev {o : List RunT} (ho : ∀ r ∈ o, 1 ≤ r.f1) (hs : sumT o ≤ 1099511627776) (hl : o.length ≤ 262144) : Ev (fun k => r23_Levels.f k o) (levV 0 o) := by
 have h := levels_l0 ho hs hl o [] rfl
 refine Ev.congr (fun k => ?_) h
 unfold r23_Levels.f
 exact (if_pos (Int.natCast_nonneg _)).trans (if_pos (by rw [Int.toNat_natCast]; omega))
theorem rexp_ev (T : Int) (L : List ItT) : Ev (fun k => r23_Expect.f k T L) (expV T L) := by
 unfold expV r23_Expect.f
 by_cases h : (encV T L).2 = 0
 ·rw [if_pos h]
  obtain ⟨hc, e, h1, h2, h3, h4, h5, h6⟩ := enc_good h
  have hlv := levels_ev (fun r hr => (h3 r hr).1) h2 h1
  have hd := refdec_ev T (l := levV 0 (outV T L)) (by rw [levV_len]; exact h1)
  have hb3 := Ev.bind (f := fun _ (t572 : List EvT) => some (t572, (0 : Int))) hd (Ev.now _)
  have hb2 := Ev.bind (f := fun k (t569 : List EvT) => (r23_Decode.f k T t569).bind fun t572 => (some (t572, (0 : Int)))) hlv hb3
  exact Ev.bind (renc_ev T L) (Ev.congr (fun k => (if_pos h).trans (by rw [e])) hb2)
 ·rw [if_neg h]
  exact Ev.bind (renc_ev T L) (Ev.congr (fun k => if_neg h) (Ev.now _))
theorem same08_l0 : ∀ (post pre : List RunT), (pre ++ post).length ≤ 140737488355328 → Ev (fun k => r08_Same.l0 k (pre ++ post) (pre ++ post) (pre.length : Int)) true
 | [], pre, hl => by
  refine Ev.step (f := fun _ => some true) (fun k => ?_) (Ev.now _)
  simp only [r08_Same.l0]
  rw [if_neg (by simp)]
 | x :: post, pre, hl => by
  have hlt := midl_lt pre post x
  have hn : pre.length ≤ 9223372036854775806 := by
   simp only [List.length_append, List.length_cons] at hl
   omega
  have ih := same08_l0 post (pre ++ [x]) (by simpa using hl)
  rw [← mid_snoc pre post x] at ih
  refine Ev.step (fun k => ?_) ih
  simp only [r08_Same.l0]
  rw [if_pos hlt, if_pos (by omega), if_pos hlt, if_neg (by simp), succ_mid pre x hn]
theorem same08_ev {l : List RunT} (hl : l.length ≤ 140737488355328) : Ev (fun k => r08_Same.f k l l) true := by
 have h := same08_l0 l [] (by simpa using hl)
 refine Ev.congr (fun k => ?_) h
 unfold r08_Same.f
 rw [if_pos rfl]
 rfl
theorem enc_len (T : Int) (L : List ItT) : (encV T L).1.length ≤ 262144 := by
 by_cases h : (encV T L).2 = 0
 ·obtain ⟨hc, e, h1, _⟩ := enc_good h
  rw [e]
  exact h1
 ·rw [enc_nil h]
  exact Nat.zero_le _
theorem exp_len (T : Int) (L : List ItT) : (expV T L).1.length ≤ 140737488355328 := by
 unfold expV
 by_cases h : (encV T L).2 = 0
 ·rw [if_pos h]
  obtain ⟨hc, e, h1, _⟩ := enc_good h
  have h2 := decV_len T (levV 0 (outV T L))
  rw [levV_len] at h2
  exact Nat.le_trans h2 (by omega)
 ·rw [if_neg h]
  exact Nat.zero_le _
theorem I2cEncodes_pure (c : Int) {l : List ItT} (hl : l.length ≤ 140737488355328) : ∃ k, lw_I2cEncodes.f k c l = some true := by
 refine Ev.rounds ?_
 have hs7 := same07_ev (l := (expV c l).1) (exp_len c l)
 have h4 := Ev.bind (f := fun k (t593 : Bool) => if t593 = true then ((lw_awake.f k).bind fun t594 => (some t594)) else none) hs7 (awk 0 (fun k _ => if_pos rfl))
 have h3 := Ev.bind (f := fun k (bt589 : List EvT × Int) => if (expV c l).2 = bt589.2 then ((r07_Same.f k (expV c l).1 bt589.1).bind fun t593 => (if t593 = true then ((lw_awake.f k).bind fun t594 => (some t594)) else (none))) else none) (rexp_ev c l) (Ev.congr (fun k => if_pos rfl) h4)
 have h2 := Ev.bind (f := fun k (bt585 : List EvT × Int) => (r23_Expect.f k c l).bind fun bt589 => (if bt585.2 = bt589.2 then ((r07_Same.f k bt585.1 bt589.1).bind fun t593 => (if t593 = true then ((lw_awake.f k).bind fun t594 => (some t594)) else (none))) else (none))) (exp_ev c l) h3
 have hj : Ev (fun k => lw_I2cEncodes.j0 k l false c) true := by
  refine Ev.step (fun k => ?_) h2
  rw [lw_I2cEncodes.j0]
  exact if_neg Bool.false_ne_true
 have hs8 := same08_ev (l := (encV c l).1) (Nat.le_trans (enc_len c l) (by decide))
 have g3 := Ev.bind (f := fun k (t584 : Bool) => lw_I2cEncodes.j0 k l (!t584) c) hs8 hj
 have g2 := Ev.bind (f := fun k (bt580 : List RunT × Int) => if (encV c l).2 = bt580.2 then ((r08_Same.f k (encV c l).1 bt580.1).bind fun t584 => (lw_I2cEncodes.j0 k l (!t584) c)) else (lw_I2cEncodes.j0 k l true c)) (renc_ev c l) (Ev.congr (fun k => if_pos rfl) g3)
 exact Ev.bind (g := fun k => i2c_Encode.f k c l) (f := fun k (bt576 : List RunT × Int) => (r23_Encode.f k c l).bind fun bt580 => (if bt576.2 = bt580.2 then ((r08_Same.f k bt576.1 bt580.1).bind fun t584 => (lw_I2cEncodes.j0 k l (!t584) c)) else (lw_I2cEncodes.j0 k l true c))) (ev_from 3 (fun k => enc_at (T := c) l (k := k + 3) (by omega))) g2
end Go.Proofs.Ytdbpablakhfdcaa
