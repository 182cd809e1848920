/- The law I2cChecks as a plain statement on numbers and lists: with enough rounds it answers true; conditions: each number is one of its kind, no list or string is longer than its memory allows. -/
import Derived.Laws.BitsAllLaws
import Derived.WalkKit
import Derived.Test.YtdbpablakhfdcaaWMore
import Derived.Test.YtdbpablakhfdcaaQx0
import Derived.Test.YtdbpablakhfdcaaQx4
import Derived.Test.YtdbpablakhfdcaaQx12
import Derived.Test.YtdbpablakhfdcaaQx14
import Derived.Test.YtdbpablakhfdcaaQx15
import Derived.Test.YtdbpablakhfdcaaQx16
import Derived.Test.YtdbpablakhfdcaaQx17
import Derived.Test.YtdbpablakhfdcaaQx20
import Derived.Test.YtdbpablakhfdcaaQx22
import Derived.Test.YtdbpablakhfdcaaQx23
import Derived.Test.YtdbpablakhfdcaaQx26
import Derived.Test.YtdbpablakhfdcaaQx27
import Derived.Test.YtdbpablakhfdcaaQx28
import Derived.Test.YtdbpablakhfdcaaQx29
import Derived.Test.YtdbpablakhfdcaaQx30
namespace Go.Proofs.Ytdbpablakhfdcaa
open Go Go.RowKit Go.Proofs.YtdbpablakhfdcaaW.PrintWords Go.Proofs.YtdbpablakhfdcaaW.PrintLast Go.Proofs.Ytdbpablakhfdcaa.Q
set_option linter.unusedVariables false
theorem w64 {x : Int} (h0 : -9223372036854775808 ≤ x) (h1 : x ≤ 9223372036854775807) : wrap64 x = x := by
  unfold wrap64
  omega
theorem succ_mid {α : Type} (pre : List α) (x : α) (h : pre.length ≤ 9223372036854775806) : wrap64 ((pre.length : Int) + 1) = ((pre ++ [x]).length : Int) := by
  rw [w64 (by omega) (by omega)]
  simp
theorem mid_snoc {α : Type} (pre post : List α) (x : α) : pre ++ x :: post = (pre ++ [x]) ++ post := by simp
abbrev RunT := S53
abbrev ItT := S49
abbrev EvT := S27
structure StT where
  f0 : Int
  f1 : Int
  f2 : Int
  f3 : Int
  f4 : Int
  f5 : Int
  f6 : Int
  f7 : ByteArray
def chgV (was is : Int) : Int :=
  if was % 2 = 1 ∧ is % 2 = 1 ∧ was / 2 = 1 ∧ is / 2 = 0 then 1
  else if was % 2 = 1 ∧ is % 2 = 1 ∧ was / 2 = 0 ∧ is / 2 = 1 then 2
  else if was % 2 = 0 ∧ is % 2 = 1 then 3 else 0
def auxV (a v : Int) (d : Nat) : Int := (if a / 2 % 2 = 1 then 1 else a % 2) + 2 * (if v = 0 then 0 else 1) + 4 * (if d ≤ 4096 then a / 4 % 2 else 1)
def bitV (s : StT) (v : Int) : StT :=
  if s.f3 < 8 then ⟨s.f0, s.f1, s.f2, s.f3 + 1, 2 * s.f4 + v, s.f5, s.f6, s.f7⟩
  else ⟨s.f0, s.f1, s.f2, 0, 0, auxV s.f5 v s.f7.size, s.f6, if s.f7.size ≤ 4096 then s.f7 ++ ⟨#[UInt8.ofNat s.f4.toNat]⟩ else s.f7⟩
def fltV (s : StT) : Int := if s.f5 / 4 % 2 = 1 then 8 else if s.f3 > 1 then 7 else if s.f5 % 2 = 1 then 10 else if s.f5 / 2 % 2 = 1 ∧ ¬ (s.f7.size > 1 ∧ (s.f7.get! 0).toNat % 2 = 1) then 10 else 0
def frmV (s : StT) (en stop : Int) : EvT := ⟨5, s.f2, en, if s.f7.size = 0 then -1 else ((s.f7.get! 0).toNat : Int), stop, s.f7.extract 1 s.f7.size, fltV s⟩
def goV (s : StT) (a b v : Int) : StT × List EvT :=
  if s.f0 = 0 then (⟨1, b, 0, 0, 0, 0, v, (⟨#[]⟩ : ByteArray)⟩, [])
  else if chgV s.f6 v = 1 then (⟨2, b, a, 0, 0, 0, v, (⟨#[]⟩ : ByteArray)⟩, if s.f0 = 2 then [frmV s a 0] else [])
  else if chgV s.f6 v = 2 then (⟨1, b, 0, 0, 0, 0, v, (⟨#[]⟩ : ByteArray)⟩, if s.f0 = 2 then [frmV s a 1] else [])
  else if chgV s.f6 v = 3 ∧ s.f0 = 2 then (bitV ⟨s.f0, b, s.f2, s.f3, s.f4, s.f5, v, s.f7⟩ (v / 2), [])
  else (⟨s.f0, b, s.f2, s.f3, s.f4, s.f5, v, s.f7⟩, [])
theorem bitV_prev (s : StT) (v : Int) : (bitV s v).f6 = s.f6 ∧ (bitV s v).f0 = s.f0 ∧ (bitV s v).f1 = s.f1 := by
  unfold bitV
  split <;> exact ⟨rfl, rfl, rfl⟩
def sumT : List RunT → Int
  | [] => 0
  | r :: l => r.f1 + sumT l
theorem snoc_cases {α : Type} (o : List α) : o = [] ∨ ∃ q y, o = q ++ [y] := by
  rcases List.eq_nil_or_concat o with h | ⟨q, y, h⟩
  · exact .inl h
  · exact .inr ⟨q, y, by simpa using h⟩
def putR (o : List RunT) (v t : Int) : List RunT :=
  match o.getLast? with
  | some y => if y.f0 = v then o.dropLast ++ [⟨y.f0, y.f1 + t⟩] else o ++ [⟨v, t⟩]
  | none => [⟨v, t⟩]
theorem putR_nil (v t : Int) : putR [] v t = [⟨v, t⟩] := rfl
theorem putR_same (o : List RunT) (y : RunT) (t : Int) : putR (o ++ [y]) y.f0 t = o ++ [⟨y.f0, y.f1 + t⟩] := by
  simp [putR]
theorem putR_new (o : List RunT) (y : RunT) {v t : Int} (h : ¬ y.f0 = v) : putR (o ++ [y]) v t = o ++ [y] ++ [⟨v, t⟩] := by
  simp [putR, h]
def putP (o : List RunT) (r : RunT) : List RunT := if r.f1 < 1 then o else putR o r.f0 r.f1
theorem sumT_append : ∀ (p q : List RunT), sumT (p ++ q) = sumT p + sumT q
  | [], q => by simp [sumT]
  | r :: p, q => by
    simp only [List.cons_append, sumT]
    rw [sumT_append p q, Int.add_assoc]
theorem sumT_putR (o : List RunT) (v n : Int) : sumT (putR o v n) = sumT o + n := by
  rcases snoc_cases o with h | ⟨q, y, h⟩
  · subst h
    simp [putR_nil, sumT]
  · subst h
    by_cases c : y.f0 = v
    · subst c
      rw [putR_same, sumT_append, sumT_append]
      simp only [sumT]
      omega
    · rw [putR_new _ _ c, sumT_append]
      simp only [sumT]
      omega
def rawBit (T v : Int) : List RunT := [⟨2 * v, T⟩, ⟨2 * v + 1, 2 * T⟩, ⟨2 * v, T⟩]
def rawBits (T : Int) : List Int → List RunT
  | [] => []
  | v :: l => rawBit T v ++ rawBits T l
def bits8 (b : Int) : List Int := [b / 128 % 2, b / 64 % 2, b / 32 % 2, b / 16 % 2, b / 8 % 2, b / 4 % 2, b / 2 % 2, b % 2]
def rawByte (T b ack : Int) : List RunT := rawBits T (bits8 b ++ [ack])
def rawData (T value : Int) : List UInt8 → List RunT
  | [] => []
  | b :: l => rawByte T b.toNat (if l = [] ∧ value % 2 = 1 then 1 else 0) ++ rawData T value l
def ItOk (x : ItT) : Prop := 0 ≤ x.f0 ∧ (0 ≤ x.f1 ∧ x.f1 ≤ 255) ∧ (x.f2 = 0 ∨ x.f2 = 1) ∧ x.f3.size ≤ 4096 ∧ (x.f4 = 0 ∨ x.f4 = 10) ∧ (x.f4 = 10 → x.f3.size = 0)
theorem sum_nonneg {l : List RunT} (h : ∀ r ∈ l, 1 ≤ r.f1) : 0 ≤ sumT l := by
  induction l with
  | nil => exact Int.le_refl 0
  | cons r l ih =>
    have h1 := h r (.head _)
    have h2 := ih (fun y hy => h y (.tail _ hy))
    simp only [sumT]
    omega
def bodyR (T : Int) (x : ItT) : List RunT := rawByte T x.f1 (if x.f4 = 10 then 1 else 0) ++ rawData T x.f1 x.f3.toList
theorem toList_eq (d : ByteArray) : d.toList.toArray = d.data ∧ (d.toList = [] ↔ d.size = 0) ∧ d.toList.length = d.size := by
  have e : d.toList = d.data.toList := by simp [ByteArray.toList_eq]
  refine ⟨by rw [e], ?_, by rw [e]; rfl⟩
  rw [e]
  exact ⟨fun h => by show d.data.toList.length = 0; rw [h]; rfl, fun h => List.length_eq_zero_iff.mp h⟩
def frontR (T : Int) (x : ItT) (first : Bool) : List RunT := if first = true then [⟨3, x.f0⟩] else [⟨0, x.f0⟩] ++ [⟨2, T⟩, ⟨3, T⟩]
def stopR (T : Int) (x : ItT) : List RunT := if x.f2 = 1 then [⟨0, T⟩, ⟨1, T⟩, ⟨3, 4 * T⟩] else []
def rawItem (T : Int) (x : ItT) (first : Bool) : List RunT := frontR T x first ++ (([⟨1, T⟩, ⟨0, T⟩] ++ bodyR T x) ++ stopR T x)
def rawAll (T : Int) : Bool → List ItT → List RunT
  | _, [] => []
  | b, x :: l => rawItem T x b ++ rawAll T (x.f2 == 1) l
def lastV : Bool → List ItT → Prop
  | b, [] => b = true
  | _, x :: l => lastV (x.f2 == 1) l
theorem ev_from {α : Type} {g : Nat → Option α} {r : α} (n : Nat) (h : ∀ k, g (k + n) = some r) : Ev g r :=
  ⟨n, fun k hk => by have := h (k - n); rwa [show k - n + n = k by omega] at this⟩
abbrev TupT := Int × Int × Int × Int × Int × Int × Int × ByteArray
def pk (s : StT) (o : List EvT) : Int × Int × Int × Int × Int × Int × Int × ByteArray × List EvT := (s.f0, s.f1, s.f2, s.f3, s.f4, s.f5, s.f6, s.f7, o)
abbrev okC (c : Int) : Prop := 1 ≤ c ∧ c ≤ 1048576
abbrev validP (x : EvT) : Prop := (1 ≤ x.f0 ∧ x.f0 ≤ 8) ∧ (0 ≤ x.f1 ∧ x.f1 ≤ x.f2 ∧ x.f2 ≤ 1099511627776) ∧ (-9007199254740992 ≤ x.f3 ∧ x.f3 ≤ 9007199254740992) ∧ (-9007199254740992 ≤ x.f4 ∧ x.f4 ≤ 9007199254740992) ∧ x.f5.size ≤ 4096 ∧ (0 ≤ x.f6 ∧ x.f6 ≤ 12)
abbrev accP (s : StT) (x : EvT) : Prop := validP x ∧ x.f0 = 1 ∧ x.f6 = 0 ∧ x.f1 < x.f2 ∧ (0 ≤ x.f3 ∧ x.f3 ≤ 3) ∧ (s.f0 = 0 ∨ x.f1 = s.f1)
def stepV (c : Int) (s : StT) (x : EvT) : StT × List EvT := if okC c ∧ accP s x then goV s x.f1 x.f2 x.f3 else (s, [])
def check_i2c (c : Int) : Int := if okC c then 0 else 2
theorem check_eq (c : Int) : i2c_Check.f c = some (check_i2c c) ∧ signalbenchref23_Check.f c = some (check_i2c c) := by
  unfold i2c_Check.f signalbenchref23_Check.f check_i2c okC
  by_cases h0 : c < 1
  · rw [if_pos h0, if_neg (by omega)]
    exact ⟨rfl, rfl⟩
  · rw [if_neg h0]
    by_cases h1 : c > 1048576
    · rw [if_pos h1, if_neg (by omega)]
      exact ⟨rfl, rfl⟩
    · rw [if_neg h1, if_pos (by omega)]
      exact ⟨rfl, rfl⟩
theorem check_ok {c : Int} (h : okC c) : check_i2c c = 0 := if_pos h
theorem check_no {c : Int} (h : ¬ okC c) : check_i2c c = 2 := if_neg h
theorem evValid_eq (k : Nat) (x : EvT) : event_Valid.f (k + 2) x.f0 x.f1 x.f2 x.f3 x.f4 x.f5 x.f6 = some (decide (validP x)) := by
  unfold event_Valid.f
  by_cases c1 : x.f0 < 1
  · rw [decide_eq_false (p := validP x) (fun h => by obtain ⟨⟨a1, a2⟩, ⟨b1, b2, b3⟩, ⟨d1, d2⟩, ⟨e1, e2⟩, g, ⟨i1, i2⟩⟩ := h; omega)]
    rw [if_pos c1]
    rfl
  · rw [if_neg c1]
    by_cases c2 : x.f0 > 8
    · rw [decide_eq_false (p := validP x) (fun h => by obtain ⟨⟨a1, a2⟩, ⟨b1, b2, b3⟩, ⟨d1, d2⟩, ⟨e1, e2⟩, g, ⟨i1, i2⟩⟩ := h; omega)]
      rw [decide_eq_true c2]
      rfl
    · rw [decide_eq_false c2]
      simp only [event_Valid.j0, if_neg Bool.false_ne_true]
      by_cases c3 : x.f1 < 0
      · rw [decide_eq_false (p := validP x) (fun h => by obtain ⟨⟨a1, a2⟩, ⟨b1, b2, b3⟩, ⟨d1, d2⟩, ⟨e1, e2⟩, g, ⟨i1, i2⟩⟩ := h; omega)]
        rw [if_pos c3]
        rfl
      · rw [if_neg c3]
        by_cases c4 : x.f1 > x.f2
        · rw [decide_eq_false (p := validP x) (fun h => by obtain ⟨⟨a1, a2⟩, ⟨b1, b2, b3⟩, ⟨d1, d2⟩, ⟨e1, e2⟩, g, ⟨i1, i2⟩⟩ := h; omega)]
          rw [if_pos c4]
          rfl
        · rw [if_neg c4]
          by_cases c5 : x.f2 > 1099511627776
          · rw [decide_eq_false (p := validP x) (fun h => by obtain ⟨⟨a1, a2⟩, ⟨b1, b2, b3⟩, ⟨d1, d2⟩, ⟨e1, e2⟩, g, ⟨i1, i2⟩⟩ := h; omega)]
            rw [decide_eq_true c5]
            rfl
          · rw [decide_eq_false c5]
            simp only [event_Valid.j1, if_neg Bool.false_ne_true]
            by_cases c6 : x.f3 < -9007199254740992
            · rw [decide_eq_false (p := validP x) (fun h => by obtain ⟨⟨a1, a2⟩, ⟨b1, b2, b3⟩, ⟨d1, d2⟩, ⟨e1, e2⟩, g, ⟨i1, i2⟩⟩ := h; omega)]
              rw [if_pos c6]
            · rw [if_neg c6]
              by_cases c7 : x.f3 > 9007199254740992
              · rw [decide_eq_false (p := validP x) (fun h => by obtain ⟨⟨a1, a2⟩, ⟨b1, b2, b3⟩, ⟨d1, d2⟩, ⟨e1, e2⟩, g, ⟨i1, i2⟩⟩ := h; omega)]
                rw [if_pos c7]
              · rw [if_neg c7]
                by_cases c8 : x.f4 < -9007199254740992
                · rw [decide_eq_false (p := validP x) (fun h => by obtain ⟨⟨a1, a2⟩, ⟨b1, b2, b3⟩, ⟨d1, d2⟩, ⟨e1, e2⟩, g, ⟨i1, i2⟩⟩ := h; omega)]
                  rw [if_pos c8]
                · rw [if_neg c8]
                  by_cases c9 : x.f4 > 9007199254740992
                  · rw [decide_eq_false (p := validP x) (fun h => by obtain ⟨⟨a1, a2⟩, ⟨b1, b2, b3⟩, ⟨d1, d2⟩, ⟨e1, e2⟩, g, ⟨i1, i2⟩⟩ := h; omega)]
                    rw [if_pos c9]
                  · rw [if_neg c9]
                    by_cases c10 : (x.f5.size : Int) > 4096
                    · rw [decide_eq_false (p := validP x) (fun h => by obtain ⟨⟨a1, a2⟩, ⟨b1, b2, b3⟩, ⟨d1, d2⟩, ⟨e1, e2⟩, g, ⟨i1, i2⟩⟩ := h; omega)]
                      rw [if_neg (by omega)]
                    · rw [if_pos (by omega)]
                      by_cases c11 : x.f6 < 0
                      · rw [decide_eq_false (p := validP x) (fun h => by obtain ⟨⟨a1, a2⟩, ⟨b1, b2, b3⟩, ⟨d1, d2⟩, ⟨e1, e2⟩, g, ⟨i1, i2⟩⟩ := h; omega)]
                        rw [if_neg (by omega)]
                      · rw [if_pos (by omega)]
                        by_cases c12 : x.f6 > 12
                        · rw [decide_eq_false (p := validP x) (fun h => by obtain ⟨⟨a1, a2⟩, ⟨b1, b2, b3⟩, ⟨d1, d2⟩, ⟨e1, e2⟩, g, ⟨i1, i2⟩⟩ := h; omega)]
                          rw [decide_eq_false (by omega)]
                        · rw [decide_eq_true (by omega), decide_eq_true (show validP x from ⟨by omega, by omega, by omega, by omega, by omega, by omega⟩)]
theorem acc_tail (s : StT) (x : EvT) : (if decide (validP x) = true then (if x.f0 = 1 then (if x.f6 = 0 then (if x.f1 ≥ x.f2 then (some false) else (if x.f3 < 0 then (some false) else (if x.f3 > 3 then (some false) else (if s.f0 = 0 then (some true) else (some (x.f1 == s.f1)))))) else (some false)) else (some false)) else (some false)) = some (decide (accP s x)) := by
  by_cases hv : validP x
  · rw [if_pos (decide_eq_true hv)]
    by_cases h1 : x.f0 = 1
    · rw [if_pos h1]
      by_cases h2 : x.f6 = 0
      · rw [if_pos h2]
        by_cases h3 : x.f1 ≥ x.f2
        · rw [if_pos h3, decide_eq_false (fun h => by have := h.2.2.2.1; omega)]
        · rw [if_neg h3]
          by_cases h4 : x.f3 < 0
          · rw [if_pos h4, decide_eq_false (fun h => by have := h.2.2.2.2.1; omega)]
          · rw [if_neg h4]
            by_cases h5 : x.f3 > 3
            · rw [if_pos h5, decide_eq_false (fun h => by have := h.2.2.2.2.1; omega)]
            · rw [if_neg h5]
              by_cases h6 : s.f0 = 0
              · rw [if_pos h6, decide_eq_true (show accP s x from ⟨hv, h1, h2, by omega, by omega, .inl h6⟩)]
              · rw [if_neg h6]
                by_cases h7 : x.f1 = s.f1
                · rw [decide_eq_true (show accP s x from ⟨hv, h1, h2, by omega, by omega, .inr h7⟩), beq_iff_eq.mpr h7]
                · rw [decide_eq_false (fun h : accP s x => by have := h.2.2.2.2.2; omega), beq_eq_false_iff_ne.mpr h7]
      · rw [if_neg h2, decide_eq_false (fun h => h2 h.2.2.1)]
    · rw [if_neg h1, decide_eq_false (fun h => h1 h.2.1)]
  · rw [if_neg (by simp [hv]), decide_eq_false (fun h => hv h.1)]
theorem accepted_eq (k : Nat) (s : StT) (x : EvT) : i2c_accepted.f (k + 2) s.f0 s.f1 s.f2 s.f3 s.f4 s.f5 s.f6 s.f7 x.f0 x.f1 x.f2 x.f3 x.f4 x.f5 x.f6 = some (decide (accP s x)) := by
  unfold i2c_accepted.f
  rw [evValid_eq, Option.bind_some]
  exact acc_tail s x
theorem four {a : Int} (h : 0 ≤ a ∧ a ≤ 3) : a = 0 ∨ a = 1 ∨ a = 2 ∨ a = 3 := by omega
theorem change_eq (k : Nat) {a b : Int} (ha : 0 ≤ a ∧ a ≤ 3) (hb : 0 ≤ b ∧ b ≤ 3) : i2c_change.f (k + 2) a b = some (chgV a b) := by
  rcases four ha with rfl | rfl | rfl | rfl <;> rcases four hb with rfl | rfl | rfl | rfl <;> rfl
def SegI (s : StT) : Prop := (0 ≤ s.f3 ∧ s.f3 ≤ 8) ∧ (0 ≤ s.f4 ∧ s.f4 < 2 ^ s.f3.toNat) ∧ (0 ≤ s.f5 ∧ s.f5 ≤ 7) ∧ s.f7.size ≤ 4097
def Inv (s : StT) : Prop := (0 ≤ s.f6 ∧ s.f6 ≤ 3) ∧ (s.f0 = 2 → SegI s)
theorem pow8 {n : Int} (h : 0 ≤ n ∧ n ≤ 8) {a : Int} (ha : a < 2 ^ n.toNat) : a ≤ 255 := by
  have h1 : n.toNat ≤ 8 := by omega
  have h2 : (2 : Nat) ^ n.toNat ≤ 2 ^ 8 := Nat.pow_le_pow_right (by decide) h1
  have h3 : ((2 : Int) ^ n.toNat) = ((2 ^ n.toNat : Nat) : Int) := by push_cast; rfl
  omega
theorem auxV_bound {a v : Int} (d : Nat) (h : 0 ≤ a ∧ a ≤ 7) : 0 ≤ auxV a v d ∧ auxV a v d ≤ 7 := by
  unfold auxV
  split <;> split <;> split <;> omega
theorem bitV_segI {s : StT} (h : SegI s) {v : Int} (hv : v = 0 ∨ v = 1) : SegI (bitV s v) := by
  obtain ⟨h3, h4, h5, h7⟩ := h
  unfold bitV
  by_cases c : s.f3 < 8
  · rw [if_pos c]
    refine ⟨⟨by show 0 ≤ s.f3 + 1; omega, by show s.f3 + 1 ≤ 8; omega⟩, ⟨by show 0 ≤ 2 * s.f4 + v; omega, ?_⟩, h5, h7⟩
    show 2 * s.f4 + v < 2 ^ (s.f3 + 1).toNat
    rw [show (s.f3 + 1).toNat = s.f3.toNat + 1 by omega, Int.pow_succ]
    omega
  · rw [if_neg c]
    refine ⟨⟨Int.le_refl 0, (by decide : (0 : Int) ≤ 8)⟩, ⟨Int.le_refl 0, (by decide : (0 : Int) < 2 ^ (0 : Int).toNat)⟩, auxV_bound _ h5, ?_⟩
    show (if s.f7.size ≤ 4096 then s.f7 ++ (⟨#[UInt8.ofNat s.f4.toNat]⟩ : ByteArray) else s.f7).size ≤ 4097
    split
    · rw [ByteArray.size_append]
      show s.f7.size + 1 ≤ 4097
      omega
    · exact h7
theorem goV_inv {s : StT} (h : Inv s) {a b v : Int} (hv : 0 ≤ v ∧ v ≤ 3) : Inv (goV s a b v).1 := by
  unfold goV
  by_cases c0 : s.f0 = 0
  · rw [if_pos c0]
    exact ⟨hv, fun h => absurd h (by decide : ¬ (1 : Int) = 2)⟩
  · rw [if_neg c0]
    by_cases c1 : chgV s.f6 v = 1
    · rw [if_pos c1]
      exact ⟨hv, fun _ => ⟨⟨Int.le_refl 0, (by decide : (0 : Int) ≤ 8)⟩, ⟨Int.le_refl 0, (by decide : (0 : Int) < 2 ^ (0 : Int).toNat)⟩, ⟨Int.le_refl 0, (by decide : (0 : Int) ≤ 7)⟩, (by decide : (0 : Nat) ≤ 4097)⟩⟩
    · rw [if_neg c1]
      by_cases c2 : chgV s.f6 v = 2
      · rw [if_pos c2]
        exact ⟨hv, fun h => absurd h (by decide : ¬ (1 : Int) = 2)⟩
      · rw [if_neg c2]
        by_cases c3 : chgV s.f6 v = 3 ∧ s.f0 = 2
        · rw [if_pos c3]
          have hs : SegI ⟨s.f0, b, s.f2, s.f3, s.f4, s.f5, v, s.f7⟩ := h.2 c3.2
          obtain ⟨e1, e2, e3⟩ := bitV_prev ⟨s.f0, b, s.f2, s.f3, s.f4, s.f5, v, s.f7⟩ (v / 2)
          exact ⟨by rw [e1]; exact hv, fun _ => bitV_segI hs (by omega)⟩
        · rw [if_neg c3]
          exact ⟨hv, h.2⟩
theorem eight {a : Int} (h : 0 ≤ a ∧ a ≤ 7) : a = 0 ∨ a = 1 ∨ a = 2 ∨ a = 3 ∨ a = 4 ∨ a = 5 ∨ a = 6 ∨ a = 7 := by omega
def tp (s : StT) : TupT := (s.f0, s.f1, s.f2, s.f3, s.f4, s.f5, s.f6, s.f7)
theorem bit_eq (k : Nat) {s : StT} (h : SegI s) {v : Int} (hv : v = 0 ∨ v = 1) : i2c_bit.f (k + 1) s.f0 s.f1 s.f2 s.f3 s.f4 s.f5 s.f6 s.f7 v = some (tp (bitV s v)) := by
  have hp := pow8 h.1 h.2.1.2
  obtain ⟨h3, h4, h5, h7⟩ := h
  unfold i2c_bit.f bitV tp
  rw [w64 (x := s.f3 + 1) (by omega) (by omega)]
  by_cases c : s.f3 < 8
  · rw [if_pos (by omega), if_pos c, w64 (x := 2 * s.f4) (by omega) (by omega), w64 (by omega) (by omega)]
  · have e8 : s.f3 = 8 := by omega
    have e4 : s.f4 % 256 = s.f4 := by omega
    have es : strOfNums [s.f4] = ⟨#[UInt8.ofNat s.f4.toNat]⟩ := rfl
    rw [if_neg (by omega), if_neg c]
    simp only [i2c_bit.j0, Option.bind_some, e4, es]
    have hz : s.f7.size ≤ 4096 → s.f7.size + (⟨#[UInt8.ofNat s.f4.toNat]⟩ : ByteArray).size ≤ 9223372036854775807 := fun hh => by
      show s.f7.size + 1 ≤ _
      omega
    by_cases cs : s.f7.size ≤ 4096
    · have cs' : (s.f7.size : Int) ≤ 4096 := by omega
      have hz' := hz cs
      simp only [cs, cs', hz', if_true, auxV]
      rcases eight h5 with e | e | e | e | e | e | e | e <;> rw [e] <;> rcases hv with rfl | rfl <;> rfl
    · have cs' : ¬ (s.f7.size : Int) ≤ 4096 := by omega
      simp only [cs, cs', if_false, auxV]
      rcases eight h5 with e | e | e | e | e | e | e | e <;> rw [e] <;> rcases hv with rfl | rfl <;> rfl
theorem toList_nil (d : ByteArray) : d.toList = ([] : List UInt8) ↔ d.size = 0 := (toList_eq d).2.1
theorem bt_get (d : ByteArray) (h : 0 < d.size) : bt d 0 = ((d.get! 0).toNat : Int) := by
  unfold bt
  rw [dif_pos (show (0 : Int).toNat < d.size from h)]
  have : (d.get! 0) = d[(0 : Int).toNat]'h := by
    show d.data[0]! = d.data[0]'h
    exact getElem!_pos d.data 0 h
  rw [this]
theorem u8_and1 {a : Int} (h : 0 ≤ a ∧ a ≤ 255) : Go.bits .and .u8 a 1 = a % 2 := by
  rw [u8_and a 1 h.1 (by omega) (by decide) (by decide), show (1 : Int).toNat = 1 from rfl, nat_mask1]
  omega
theorem fault_eq (k : Nat) {s : StT} (h : 0 ≤ s.f5 ∧ s.f5 ≤ 7) : i2c_fault.f (k + 1) s.f0 s.f1 s.f2 s.f3 s.f4 s.f5 s.f6 s.f7 = some (fltV s) := by
  have key : ∀ b : Bool, (b = true ↔ (0 < s.f7.size ∧ (s.f7.get! 0).toNat % 2 = 1)) → i2c_fault.j0 (k + 1) b s.f0 s.f1 s.f2 s.f3 s.f4 s.f5 s.f6 s.f7 = some (fltV s) := by
    intro b hb
    simp only [i2c_fault.j0]
    unfold fltV
    have e1 : ¬ ((s.f7.size : Int) > 1) ↔ ¬ (s.f7.size > 1) := by omega
    by_cases c3 : s.f3 > 1
    · simp only [if_pos c3]
      rcases eight h with e | e | e | e | e | e | e | e <;> rw [e] <;> rfl
    · simp only [if_neg c3]
      by_cases c7 : s.f7.size > 1
      · have c7' : (s.f7.size : Int) > 1 := by omega
        have c0 : 0 < s.f7.size := by omega
        simp only [if_pos c7', c7, c0, true_and] at hb ⊢
        by_cases cb : (s.f7.get! 0).toNat % 2 = 1
        · simp only [hb.mpr cb, cb, if_true, not_true_eq_false, and_false, if_false]
          rcases eight h with e | e | e | e | e | e | e | e <;> rw [e] <;> rfl
        · have : b = false := by cases b with | false => rfl | true => exact absurd (hb.mp rfl) cb
          simp only [this, cb, not_false_eq_true, and_true]
          rcases eight h with e | e | e | e | e | e | e | e <;> rw [e] <;> rfl
      · have c7' : ¬ (s.f7.size : Int) > 1 := by omega
        simp only [if_neg c7', c7, false_and, not_false_eq_true, and_true, ite_self]
        rcases eight h with e | e | e | e | e | e | e | e <;> rw [e] <;> rfl
  unfold i2c_fault.f
  by_cases c : s.f7.size = 0
  · rw [if_pos ((toList_nil _).mpr c)]
    exact key false ⟨fun hh => absurd hh (by decide), fun hh => by omega⟩
  · rw [if_neg (fun hh => c ((toList_nil _).mp hh)), if_pos (by omega)]
    refine key _ ?_
    rw [u8_and1 (bt_range _ _), bt_get _ (by omega)]
    simp only [beq_iff_eq]
    omega
def etup (x : EvT) : Int × Int × Int × Int × Int × ByteArray × Int := (x.f0, x.f1, x.f2, x.f3, x.f4, x.f5, x.f6)
theorem frame_eq (k : Nat) {s : StT} (h : 0 ≤ s.f5 ∧ s.f5 ≤ 7) (en stop : Int) : i2c_frame.f (k + 1) s.f0 s.f1 s.f2 s.f3 s.f4 s.f5 s.f6 s.f7 en stop = some (etup (frmV s en stop)) := by
  unfold i2c_frame.f frmV etup
  rw [fault_eq k h, Option.bind_some]
  by_cases c : s.f7.size = 0
  · have e : s.f7 = ⟨#[]⟩ := by
      apply ByteArray.ext
      exact Array.toList_inj.mp (List.length_eq_zero_iff.mp c)
    rw [if_pos ((toList_nil _).mpr c), if_pos c, e]
    rfl
  · have hb := (s.f7.get! 0).toNat_lt
    rw [if_neg (fun hh => c ((toList_nil _).mp hh)), if_pos (by omega), if_pos (by omega), if_neg c, bt_get _ (by omega), w64 (by omega) (by omega)]
theorem step_ev {c : Int} {s : StT} (hs : Inv s) (x : EvT) : ∀ k, i2c_Step.f (k + 5) c s.f0 s.f1 s.f2 s.f3 s.f4 s.f5 s.f6 s.f7 x.f0 x.f1 x.f2 x.f3 x.f4 x.f5 x.f6 = some (pk (stepV c s x).1 (stepV c s x).2) := by
  intro k
  unfold i2c_Step.f
  rw [(check_eq c).1, Option.bind_some]
  by_cases hc : okC c
  · rw [check_ok hc, if_pos rfl, accepted_eq, Option.bind_some]
    unfold stepV
    by_cases ha : accP s x
    · rw [if_pos ⟨hc, ha⟩]
      have hd : (!decide (accP s x)) = false := by simp [ha]
      rw [hd]
      simp only [i2c_Step.j0, if_neg Bool.false_ne_true]
      obtain ⟨hv, h1, h6, h12, h3, h0⟩ := ha
      unfold goV pk
      by_cases c0 : s.f0 = 0
      · simp only [if_pos c0]
      · simp only [if_neg c0]
        rw [change_eq (k + 2) hs.1 h3, Option.bind_some]
        have hfr : ∀ stop, s.f0 = 2 → i2c_frame.f (k + 3) s.f0 x.f2 s.f2 s.f3 s.f4 s.f5 x.f3 s.f7 x.f1 stop = some (etup (frmV s x.f1 stop)) := fun stop h2 => frame_eq (k + 2) (s := ⟨s.f0, x.f2, s.f2, s.f3, s.f4, s.f5, x.f3, s.f7⟩) (hs.2 h2).2.2.1 x.f1 stop
        by_cases c1 : chgV s.f6 x.f3 = 1
        · simp only [if_pos c1, i2c_Step.j1]
          by_cases c2 : s.f0 = 2
          · simp only [if_pos c2]
            rw [hfr 0 c2, Option.bind_some]
            rfl
          · simp only [if_neg c2]
        · simp only [if_neg c1]
          by_cases c1' : chgV s.f6 x.f3 = 2
          · simp only [if_pos c1', i2c_Step.j1]
            by_cases c2 : s.f0 = 2
            · simp only [if_pos c2]
              rw [hfr 1 c2, Option.bind_some]
              rfl
            · simp only [if_neg c2]
          · simp only [if_neg c1']
            by_cases c3 : chgV s.f6 x.f3 = 3
            · by_cases c2 : s.f0 = 2
              · simp only [if_pos c3, if_pos c2, if_pos (And.intro c3 c2)]
                have eb : Go.bits .and .i64 (x.f3 / 2) 1 = x.f3 / 2 := by
                  rcases four h3 with e | e | e | e <;> rw [e] <;> rfl
                have hb := bit_eq (k + 3) (s := ⟨s.f0, x.f2, s.f2, s.f3, s.f4, s.f5, x.f3, s.f7⟩) (hs.2 c2) (v := x.f3 / 2) (by omega)
                rw [eb]
                rw [hb, Option.bind_some]
                rfl
              · simp only [if_pos c3, if_neg c2, if_neg (fun h : chgV s.f6 x.f3 = 3 ∧ s.f0 = 2 => c2 h.2)]
            · simp only [if_neg c3, if_neg (fun h : chgV s.f6 x.f3 = 3 ∧ s.f0 = 2 => c3 h.1)]
    · rw [if_neg (fun h => ha h.2)]
      have hd : (!decide (accP s x)) = true := by simp [ha]
      rw [hd]
      rfl
  · rw [check_no hc, if_neg (by decide)]
    unfold stepV
    rw [if_neg (fun h => hc h.1)]
    rfl
theorem ev_step {α : Type} {g f : Nat → Option α} {r : α} (n : Nat) (h : ∀ k, n ≤ k → g (k + 1) = f k) (hf : Ev f r) : Ev g r := by
  obtain ⟨K, hK⟩ := hf
  refine ⟨max K n + 1, fun k hk => ?_⟩
  have e : k = (k - 1) + 1 := by omega
  rw [e, h _ (by omega)]
  exact hK _ (by omega)
theorem ev_same {α : Type} {g f : Nat → Option α} {r : α} (n : Nat) (h : ∀ k, n ≤ k → g k = f k) (hf : Ev f r) : Ev g r := by
  obtain ⟨K, hK⟩ := hf
  exact ⟨max K n, fun k hk => by rw [h _ (by omega)]; exact hK _ (by omega)⟩
theorem step_at {c : Int} {s : StT} (hs : Inv s) (x : EvT) {k : Nat} (hk : 5 ≤ k) : i2c_Step.f k c s.f0 s.f1 s.f2 s.f3 s.f4 s.f5 s.f6 s.f7 x.f0 x.f1 x.f2 x.f3 x.f4 x.f5 x.f6 = some (pk (stepV c s x).1 (stepV c s x).2) := by
  have h := step_ev (c := c) hs x (k - 5)
  rwa [show k - 5 + 5 = k by omega] at h
theorem rdE_mid (pre post : List EvT) (x : EvT) : rd_T27 (pre ++ x :: post) (pre.length : Int) = x := by simp [rd_T27, List.getD]
theorem rdR_mid (pre post : List RunT) (x : RunT) : rd_T53 (pre ++ x :: post) (pre.length : Int) = x := by simp [rd_T53, List.getD]
theorem midl_lt {α : Type} (pre post : List α) (x : α) : (pre.length : Int) < ((pre ++ x :: post).length : Int) := by
  simp only [List.length_append, List.length_cons]
  omega
def runV (c : Int) : StT → List EvT → StT × List EvT
  | s, [] => (s, [])
  | s, x :: l => ((runV c (stepV c s x).1 l).1, (stepV c s x).2 ++ (runV c (stepV c s x).1 l).2)
def endV (c : Int) (s : StT) : List EvT := if okC c ∧ s.f0 = 2 then [⟨5, s.f2, s.f1, 0, 0, ⟨#[]⟩, 7⟩] else []
def z0 : StT := ⟨0, 0, 0, 0, 0, 0, 0, ⟨#[]⟩⟩
def decV (c : Int) (l : List EvT) : List EvT := (runV c z0 l).2 ++ endV c (runV c z0 l).1
theorem goV_len (s : StT) (a b v : Int) : (goV s a b v).2.length ≤ 1 := by
  unfold goV
  repeat' split
  all_goals simp
theorem stepV_len (c : Int) (s : StT) (x : EvT) : (stepV c s x).2.length ≤ 1 := by
  unfold stepV
  split
  · exact goV_len ..
  · exact Nat.zero_le _
theorem stepV_inv {c : Int} {s : StT} (h : Inv s) (x : EvT) : Inv (stepV c s x).1 := by
  unfold stepV
  split
  · rename_i ha
    exact goV_inv h ha.2.2.2.2.2.1
  · exact h
theorem endV_len (c : Int) (s : StT) : (endV c s).length ≤ 1 := by
  unfold endV
  split
  · exact Nat.le_refl _
  · exact Nat.zero_le _
theorem inv_z0 : Inv z0 := ⟨⟨Int.le_refl 0, (by decide : (0 : Int) ≤ 3)⟩, fun h => absurd h (by decide : ¬ (0 : Int) = 2)⟩
theorem end_eq (c : Int) (s : StT) : i2c_End.f c s.f0 s.f1 s.f2 s.f3 s.f4 s.f5 s.f6 s.f7 = some (endV c s) := by
  unfold i2c_End.f endV
  rw [(check_eq c).1, Option.bind_some]
  by_cases h : okC c
  · rw [check_ok h, if_pos rfl]
    by_cases h2 : s.f0 = 2
    · rw [if_pos h2, if_pos ⟨h, h2⟩]
    · rw [if_neg h2, if_neg (fun hh => h2 hh.2)]
  · rw [check_no h, if_neg (by decide), if_neg (fun hh => h hh.1)]
theorem dec_l0 {c : Int} : ∀ (post pre out : List EvT) (s : StT), Inv s → out.length + post.length + 1 < 2199023255552 → (pre ++ post).length ≤ 1099511627776 →
    Ev (fun k => i2c_Decode.l0 k out (pre ++ post) ((pre ++ post).length : Int) (pre.length : Int) c s.f0 s.f1 s.f2 s.f3 s.f4 s.f5 s.f6 s.f7) (out ++ ((runV c s post).2 ++ endV c (runV c s post).1))
  | [], pre, out, s, hs, ho, hl => by
    have hz := endV_len c s
    refine Ev.step (f := fun _ => some (out ++ endV c s)) (fun k => ?_) (Ev.now _)
    simp only [i2c_Decode.l0]
    rw [if_neg (by simp), end_eq, Option.bind_some, if_pos (by simp only [List.length_nil] at ho; omega)]
  | x :: post, pre, out, s, hs, ho, hl => by
    have hlt := midl_lt pre post x
    have hn : pre.length ≤ 9223372036854775806 := by
      simp only [List.length_append, List.length_cons] at hl
      omega
    have h1 := stepV_len c s x
    simp only [List.length_cons] at ho
    have ih := dec_l0 (c := c) post (pre ++ [x]) (out ++ (stepV c s x).2) (stepV c s x).1 (stepV_inv hs x) (by rw [List.length_append]; omega) (by simpa using hl)
    rw [← mid_snoc] at ih
    have er : out ++ (stepV c s x).2 ++ ((runV c (stepV c s x).1 post).2 ++ endV c (runV c (stepV c s x).1 post).1) = out ++ ((runV c s (x :: post)).2 ++ endV c (runV c s (x :: post)).1) := by
      simp only [runV, List.append_assoc]
    rw [er] at ih
    refine ev_step 5 (fun k hk => ?_) ih
    simp only [i2c_Decode.l0]
    rw [if_pos hlt, if_pos (by omega), if_pos hlt, rdE_mid, step_at hs x hk, Option.bind_some]
    refine (if_pos (show out.length + (stepV c s x).2.length < 2199023255552 by omega)).trans ?_
    rw [succ_mid _ _ hn]
    rfl
theorem dec_ev (c : Int) {l : List EvT} (hl : l.length ≤ 1099511627776) : Ev (fun k => i2c_Decode.f k c l) (decV c l) := by
  have h := dec_l0 (c := c) l [] [] z0 inv_z0 (by simp only [List.length_nil]; omega) (by simpa using hl)
  exact Ev.congr (fun k => rfl) h
theorem awake23_ev : Ev (fun k => signalbenchlaw23_awake.f k) true := Ev.of (k := 100) (fun k => signalbenchlaw23_awake.mono k) (by decide +kernel)
theorem awake23_then : Ev (fun k => (signalbenchlaw23_awake.f k).bind fun t => some t) true := Ev.bind awake23_ev (Ev.now true)
def levV : Int → List RunT → List EvT
  | _, [] => []
  | t, r :: l => ⟨1, t, t + r.f1, r.f0, 0, ⟨#[]⟩, 0⟩ :: levV (t + r.f1) l
theorem expect_l0 {c : Int} : ∀ (post pre : List RunT) (out : List EvT) (t : Int), 0 ≤ t → (∀ r ∈ post, 1 ≤ r.f1) → t + sumT post ≤ 1099511627776 → (pre ++ post).length ≤ 262144 → out.length + post.length ≤ 262144 →
    Ev (fun k => i2c_Expect.l0 k out t (pre ++ post) ((pre ++ post).length : Int) (pre.length : Int) c) (decV c (out ++ levV t post), 0)
  | [], pre, out, t, h0, hr, hs, hl, ho => by
    have hd := dec_ev c (l := out) (by simp only [List.length_nil] at ho; omega)
    have hd2 : Ev (fun k => (i2c_Decode.f k c out).bind fun t201 => (some (t201, (0 : Int)))) (decV c (out ++ levV t []), 0) := by
      rw [show out ++ levV t [] = out from List.append_nil out]
      exact Ev.bind hd (Ev.now _)
    refine Ev.step (fun k => ?_) hd2
    simp only [i2c_Expect.l0]
    rw [if_neg (by simp)]
  | r :: post, pre, out, t, h0, hr, hs, hl, ho => by
    have hlt := midl_lt pre post r
    have hn : pre.length ≤ 9223372036854775806 := by
      simp only [List.length_append, List.length_cons] at hl
      omega
    have h1 := hr r (.head _)
    have h2 : ∀ x ∈ post, 1 ≤ x.f1 := fun x hx => hr x (.tail _ hx)
    have h3 := sum_nonneg h2
    simp only [sumT] at hs
    simp only [List.length_cons] at ho
    have ih := expect_l0 (c := c) post (pre ++ [r]) (out ++ [⟨1, t, t + r.f1, r.f0, 0, ⟨#[]⟩, 0⟩]) (t + r.f1) (by omega) h2 (by omega) (by simpa using hl) (by simp only [List.length_append, List.length_cons, List.length_nil]; omega)
    rw [← mid_snoc] at ih
    have er : out ++ [(⟨1, t, t + r.f1, r.f0, 0, ⟨#[]⟩, 0⟩ : EvT)] ++ levV (t + r.f1) post = out ++ levV t (r :: post) := by simp [levV]
    rw [er] at ih
    refine Ev.step (fun k => ?_) ih
    simp only [i2c_Expect.l0]
    rw [if_pos hlt, if_pos (by omega), if_pos hlt, rdR_mid, if_pos (by omega), succ_mid _ _ hn, w64 (x := t + r.f1) (by omega) (by omega)]
theorem last_at (o : List RunT) (x : RunT) (h : o.length ≤ 9223372036854775806) : wrap64 (((o ++ [x]).length : Int) - 1) = (o.length : Int) := by
  rw [w64 (by simp only [List.length_append, List.length_cons, List.length_nil]; omega) (by simp only [List.length_append, List.length_cons, List.length_nil]; omega)]
  simp
theorem rd_last (o : List RunT) (x : RunT) : rd_T53 (o ++ [x]) (o.length : Int) = x := rdR_mid o [] x
theorem set_last (o : List RunT) (x y : RunT) : (o ++ [x]).set ((o.length : Int)).toNat y = o ++ [y] := by
  rw [Int.toNat_natCast]
  simp
def OkR (k : Nat) (o : List RunT) : Prop := o.length ≤ k ∧ sumT o ≤ 4194304 * (k : Int) ∧ ∀ y ∈ o, 1 ≤ y.f1 ∧ 0 ≤ y.f0 ∧ y.f0 ≤ 3
def RawOk (l : List RunT) : Prop := ∀ r ∈ l, r.f1 ≤ 4194304 ∧ 0 ≤ r.f0 ∧ r.f0 ≤ 3
def puts (o raw : List RunT) : List RunT := raw.foldl putP o
theorem puts_append (o p q : List RunT) : puts o (p ++ q) = puts (puts o p) q := List.foldl_append ..
theorem le_sumT : ∀ {o : List RunT}, (∀ y ∈ o, 1 ≤ y.f1 ∧ 0 ≤ y.f0 ∧ y.f0 ≤ 3) → ∀ y ∈ o, y.f1 ≤ sumT o
  | [], h, y, hy => absurd hy (by simp)
  | x :: o, h, y, hy => by
    have h2 : ∀ z ∈ o, 1 ≤ z.f1 ∧ 0 ≤ z.f0 ∧ z.f0 ≤ 3 := fun z hz => h z (.tail _ hz)
    have h3 := sum_nonneg (fun z hz => (h2 z hz).1)
    have h4 := h x (.head _)
    simp only [sumT]
    rcases List.mem_cons.mp hy with rfl | hy
    · omega
    · have := le_sumT h2 y hy
      omega
theorem putP_ok {k : Nat} {o : List RunT} (h : OkR k o) {r : RunT} (hr : r.f1 ≤ 4194304 ∧ 0 ≤ r.f0 ∧ r.f0 ≤ 3) : OkR (k + 1) (putP o r) := by
  obtain ⟨h1, h2, h3⟩ := h
  unfold putP
  by_cases c : r.f1 < 1
  · rw [if_pos c]
    exact ⟨by omega, by push_cast; omega, h3⟩
  · rw [if_neg c]
    refine ⟨?_, by rw [sumT_putR]; push_cast; omega, ?_⟩
    · rcases snoc_cases o with rfl | ⟨q, y, rfl⟩
      · simp [putR_nil]
      · by_cases e : y.f0 = r.f0
        · rw [← e, putR_same]
          simp only [List.length_append, List.length_cons, List.length_nil] at h1 ⊢
          omega
        · rw [putR_new q y e]
          simp only [List.length_append, List.length_cons, List.length_nil] at h1 ⊢
          omega
    · rcases snoc_cases o with rfl | ⟨q, y, rfl⟩
      · intro z hz
        rw [putR_nil, List.mem_singleton] at hz
        rw [hz]
        exact ⟨by show 1 ≤ r.f1; omega, hr.2⟩
      · by_cases e : y.f0 = r.f0
        · rw [← e, putR_same]
          intro z hz
          rcases List.mem_append.mp hz with hz | hz
          · exact h3 z (List.mem_append_left _ hz)
          · rw [List.mem_singleton.mp hz]
            have := h3 y (by simp)
            exact ⟨by show 1 ≤ y.f1 + r.f1; omega, this.2⟩
        · rw [putR_new q y e]
          intro z hz
          rcases List.mem_append.mp hz with hz | hz
          · exact h3 z hz
          · rw [List.mem_singleton.mp hz]
            exact ⟨by show 1 ≤ r.f1; omega, hr.2⟩
theorem puts_ok : ∀ (raw : List RunT) {k : Nat} {o : List RunT}, OkR k o → RawOk raw → OkR (k + raw.length) (puts o raw)
  | [], k, o, h, hr => h
  | r :: raw, k, o, h, hr => by
    have := puts_ok raw (putP_ok h (hr r (.head _))) (fun x hx => hr x (.tail _ hx))
    rw [show k + (r :: raw).length = k + 1 + raw.length by simp only [List.length_cons]; omega]
    exact this
theorem put_eq {k : Nat} {o : List RunT} (h : OkR k o) (hk : k ≤ 1000000000) {v n : Int} (hn : n ≤ 4194304) : line_put.f o v n = some (putP o ⟨v, n⟩) := by
  obtain ⟨h1, h2, h3⟩ := h
  unfold line_put.f putP
  by_cases c0 : n < 1
  · rw [if_pos c0, if_pos c0]
  · rw [if_neg c0, if_neg c0]
    rcases snoc_cases o with rfl | ⟨q, y, rfl⟩
    · rw [if_neg (by simp), if_pos (by simp)]
      rfl
    · have hy := le_sumT h3 y (by simp)
      have hy1 := h3 y (by simp)
      have hq : q.length ≤ 9223372036854775806 := by
        simp only [List.length_append, List.length_cons, List.length_nil] at h1
        omega
      have hlt : (q.length : Int) < ((q ++ [y]).length : Int) := midl_lt q [] y
      rw [last_at q y hq, rd_last, if_pos (by omega), if_pos (by omega), if_pos hlt]
      by_cases c : y.f0 = v
      · rw [if_pos c, set_last, w64 (by omega) (by omega), ← c, putR_same]
      · rw [if_neg c, if_pos (by omega), putR_new q y c]
theorem r_ok {v n : Int} (hn : n ≤ 4194304) (hv : 0 ≤ v ∧ v ≤ 3) : (⟨v, n⟩ : RunT).f1 ≤ 4194304 ∧ 0 ≤ (⟨v, n⟩ : RunT).f0 ∧ (⟨v, n⟩ : RunT).f0 ≤ 3 := ⟨hn, hv⟩
def tOk (T : Int) : Prop := 1 ≤ T ∧ T ≤ 1048576
theorem rawBit_ok {T v : Int} (hT : tOk T) (hv : v = 0 ∨ v = 1) : RawOk (rawBit T v) := by
  intro r hr
  unfold tOk at hT
  simp only [rawBit, List.mem_cons, List.not_mem_nil, or_false] at hr
  rcases hr with rfl | rfl | rfl
  · exact ⟨by show T ≤ _; omega, by show 0 ≤ 2 * v; omega, by show 2 * v ≤ 3; omega⟩
  · exact ⟨by show 2 * T ≤ _; omega, by show 0 ≤ 2 * v + 1; omega, by show 2 * v + 1 ≤ 3; omega⟩
  · exact ⟨by show T ≤ _; omega, by show 0 ≤ 2 * v; omega, by show 2 * v ≤ 3; omega⟩
theorem three_puts {k : Nat} {o : List RunT} {a b c : RunT} (h : OkR k o) (hr : RawOk [a, b, c]) : puts o [a, b, c] = putP (putP (putP o a) b) c ∧ OkR (k + 1) (putP o a) ∧ OkR (k + 2) (putP (putP o a) b) ∧ OkR (k + 3) (puts o [a, b, c]) :=
  ⟨rfl, putP_ok h (hr a (by simp)), putP_ok (putP_ok h (hr a (by simp))) (hr b (by simp)), puts_ok [a, b, c] h hr⟩
theorem bit_put {k : Nat} {o : List RunT} (h : OkR k o) (hk : k ≤ 900000000) {T v : Int} (hT : tOk T) (hv : v = 0 ∨ v = 1) : line_bit.f T o v = some (puts o (rawBit T v)) := by
  obtain ⟨e, h1, h2, h3⟩ := three_puts h (rawBit_ok hT hv)
  unfold tOk at hT
  unfold line_bit.f
  rw [w64 (x := v * 2) (by omega) (by omega), w64 (x := v * 2 + 1) (by omega) (by omega), w64 (x := 2 * T) (by omega) (by omega), Int.mul_comm v 2]
  rw [put_eq h (by omega) (by omega), Option.bind_some, put_eq h1 (by omega) (by omega), Option.bind_some, put_eq h2 (by omega) (by omega)]
  rfl
def bitsN (b : Int) : Nat → List Int
  | 0 => []
  | n + 1 => b / 2 ^ n % 2 :: bitsN b n
theorem bitsN_8 (b : Int) : bitsN b 8 = bits8 b := by
  simp [bitsN, bits8]
theorem rawBits_len (T : Int) : ∀ l : List Int, (rawBits T l).length = 3 * l.length
  | [] => rfl
  | v :: l => by
    simp only [rawBits, List.length_append, rawBits_len T l, List.length_cons]
    show 3 + _ = _
    omega
theorem rawBits_ok {T : Int} (hT : tOk T) : ∀ l : List Int, (∀ v ∈ l, v = 0 ∨ v = 1) → RawOk (rawBits T l)
  | [], h => fun r hr => absurd hr (by simp [rawBits])
  | v :: l, h => fun r hr => by
    rcases List.mem_append.mp hr with hr | hr
    · exact rawBit_ok hT (h v (.head _)) r hr
    · exact rawBits_ok hT l (fun x hx => h x (.tail _ hx)) r hr
theorem pow_pos' (n : Nat) : (0 : Int) < 2 ^ n := Int.pow_pos (by decide)
theorem div_range {b : Int} (hb : 0 ≤ b ∧ b ≤ 255) (n : Nat) : 0 ≤ b / 2 ^ n ∧ b / 2 ^ n ≤ 255 := by
  refine ⟨Int.ediv_nonneg hb.1 (Int.le_of_lt (pow_pos' n)), ?_⟩
  exact Int.le_trans (Int.ediv_le_self _ hb.1) hb.2
theorem bytes_g {T b ack : Int} (hT : tOk T) (hb : 0 ≤ b ∧ b ≤ 255) (ha : ack = 0 ∨ ack = 1) : ∀ (n k : Nat) (o : List RunT), OkR k o → k + 3 * n ≤ 800000000 → line_bytes.g T b ack n o = some (puts o (rawBits T (bitsN b n ++ [ack])))
  | 0, k, o, h, hk => by
    show line_bit.f T o ack = _
    rw [bit_put h (by omega) hT ha]
    simp [bitsN, rawBits]
  | n + 1, k, o, h, hk => by
    have hr := div_range hb n
    have hv : b / 2 ^ n % 2 = 0 ∨ b / 2 ^ n % 2 = 1 := by omega
    have h3 := puts_ok (rawBit T (b / 2 ^ n % 2)) h (rawBit_ok hT hv)
    show (line_bit.f T o (wrap64 (Go.bits .and .u8 (b / 2 ^ n) 1))).bind _ = _
    rw [u8_and1 hr, w64 (by omega) (by omega), bit_put h (by omega) hT hv, Option.bind_some]
    rw [bytes_g hT hb ha n _ _ h3 (by show k + 3 + 3 * n ≤ _; omega), ← puts_append]
    rfl
theorem bytes_put {k : Nat} {o : List RunT} (h : OkR k o) (hk : k ≤ 700000000) {T b ack : Int} (hT : tOk T) (hb : 0 ≤ b ∧ b ≤ 255) (ha : ack = 0 ∨ ack = 1) : line_bytes.f T o b ack = some (puts o (rawByte T b ack)) := by
  unfold line_bytes.f rawByte
  rw [bytes_g hT hb ha 8 k o h (by omega), bitsN_8]
theorem rawByte_ok {T b ack : Int} (hT : tOk T) (ha : ack = 0 ∨ ack = 1) : RawOk (rawByte T b ack) := by
  refine rawBits_ok hT _ (fun v hv => ?_)
  simp only [bits8, List.cons_append, List.nil_append, List.mem_cons, List.not_mem_nil, or_false] at hv
  rcases hv with rfl | rfl | rfl | rfl | rfl | rfl | rfl | rfl | rfl
  all_goals first | exact ha | omega
theorem rawByte_len (T b ack : Int) : (rawByte T b ack).length = 27 := by
  unfold rawByte
  rw [rawBits_len]
  rfl
theorem i64_and1 {a : Int} (h : 0 ≤ a ∧ a ≤ 255) : Go.bits .and .i64 a 1 = a % 2 := by
  have e1 : Go.bits .and .i64 a 1 = IntKind.i64.wrap (((BitVec.ofInt 64 a &&& BitVec.ofInt 64 1).toNat : Nat) : Int) := rfl
  have e3 : (BitVec.ofInt 64 a).toNat = a.toNat := by
    rw [BitVec.toNat_ofInt]
    omega
  rw [e1, BitVec.toNat_and, e3, show (BitVec.ofInt 64 1).toNat = 1 from rfl, nat_mask1, IntKind.wrap_i64]
  omega
theorem bt_byte (d : ByteArray) {i : Nat} (h : i < d.size) : bt d (i : Int) = ((d.toList[i]'(by rw [(toList_eq d).2.2]; exact h)).toNat : Int) := by
  unfold bt
  rw [dif_pos (by rw [Int.toNat_natCast]; exact h)]
  have e : d.toList = d.data.toList := by simp [ByteArray.toList_eq]
  simp only [Int.toNat_natCast, e]
  rfl
theorem drop_byte (d : ByteArray) {i : Nat} (h : i < d.size) : d.toList.drop i = d.toList[i]'(by rw [(toList_eq d).2.2]; exact h) :: d.toList.drop (i + 1) := List.drop_eq_getElem_cons _
theorem rawData_ok {T value : Int} (hT : tOk T) : ∀ l : List UInt8, RawOk (rawData T value l)
  | [] => fun r hr => absurd hr (by simp [rawData])
  | b :: l => fun r hr => by
    rcases List.mem_append.mp hr with hr | hr
    · exact rawByte_ok hT (by split <;> simp) r hr
    · exact rawData_ok hT l r hr
theorem rawData_len (T value : Int) : ∀ l : List UInt8, (rawData T value l).length = 27 * l.length
  | [] => rfl
  | b :: l => by
    simp only [rawData, List.length_append, rawByte_len, rawData_len T value l, List.length_cons]
    omega
theorem item_g {T value : Int} (hT : tOk T) (hv : 0 ≤ value ∧ value ≤ 255) (d : ByteArray) : ∀ (n i k : Nat) (o : List RunT), OkR k o → i + n = d.size → k + 27 * n ≤ 600000000 → line_item.g T value d n i o = some (puts o (rawData T value (d.toList.drop i)))
  | 0, i, k, o, h, hi, hk => by
    rw [List.drop_of_length_le (by rw [(toList_eq d).2.2]; omega)]
    rfl
  | n + 1, i, k, o, h, hi, hk => by
    have hlt : i < d.size := by omega
    have hb := bt_range d (i : Int)
    have hz : (d.toList.drop (i + 1) = []) ↔ n = 0 := by
      rw [List.drop_eq_nil_iff, (toList_eq d).2.2]
      omega
    have ea : (if n = 0 ∧ Go.bits .and .i64 value 1 = 1 then (1 : Int) else 0) = (if d.toList.drop (i + 1) = [] ∧ value % 2 = 1 then 1 else 0) := by
      rw [i64_and1 hv]
      simp only [hz]
    have h3 := puts_ok (rawByte T (bt d (i : Int)) (if d.toList.drop (i + 1) = [] ∧ value % 2 = 1 then 1 else 0)) h (rawByte_ok hT (by split <;> simp))
    rw [rawByte_len] at h3
    show (line_bytes.f T o (bt d (i : Int)) (if n = 0 ∧ Go.bits .and .i64 value 1 = 1 then 1 else 0)).bind _ = _
    rw [ea, bytes_put h (by omega) hT hb (by split <;> simp), Option.bind_some]
    rw [item_g hT hv d n (i + 1) _ _ h3 (by omega) (by omega), ← puts_append, drop_byte d hlt, bt_byte d hlt]
    rfl
theorem one_ok {v n : Int} (hn : n ≤ 4194304) (hv : 0 ≤ v ∧ v ≤ 3) : RawOk [⟨v, n⟩] := fun r hr => by rw [List.mem_singleton.mp hr]; exact ⟨hn, hv⟩
theorem rawok_app {p q : List RunT} (hp : RawOk p) (hq : RawOk q) : RawOk (p ++ q) := fun r hr => by
  rcases List.mem_append.mp hr with h | h
  · exact hp r h
  · exact hq r h
theorem front_ok {T : Int} (hT : tOk T) {x : ItT} (hg : x.f0 ≤ 1048576) (b : Bool) : RawOk (frontR T x b) := by
  unfold tOk at hT
  unfold frontR
  split
  · exact one_ok (by omega) (by decide)
  · exact rawok_app (one_ok (by omega) (by decide)) (rawok_app (p := [⟨2, T⟩]) (one_ok (by omega) (by decide)) (one_ok (by omega) (by decide)))
theorem stop_ok {T : Int} (hT : tOk T) (x : ItT) : RawOk (stopR T x) := by
  unfold tOk at hT
  unfold stopR
  split
  · exact rawok_app (p := [⟨0, T⟩]) (one_ok (by omega) (by decide)) (rawok_app (p := [⟨1, T⟩]) (one_ok (by omega) (by decide)) (one_ok (by omega) (by decide)))
  · exact fun r hr => absurd hr (by simp)
theorem body_ok {T : Int} (hT : tOk T) (x : ItT) : RawOk (bodyR T x) := rawok_app (rawByte_ok hT (by split <;> simp)) (rawData_ok hT _)
theorem two_ok {T : Int} (hT : tOk T) : RawOk [⟨1, T⟩, ⟨0, T⟩] := by
  unfold tOk at hT
  exact rawok_app (p := [⟨1, T⟩]) (one_ok (by omega) (by decide)) (one_ok (by omega) (by decide))
theorem item_ok {T : Int} (hT : tOk T) {x : ItT} (hg : x.f0 ≤ 1048576) (b : Bool) : RawOk (rawItem T x b) := rawok_app (front_ok hT hg b) (rawok_app (rawok_app (two_ok hT) (body_ok hT x)) (stop_ok hT x))
theorem front_len (T : Int) (x : ItT) (b : Bool) : (frontR T x b).length ≤ 3 := by
  unfold frontR
  split <;> simp
theorem stop_len (T : Int) (x : ItT) : (stopR T x).length ≤ 3 := by
  unfold stopR
  split <;> simp
theorem body_len (T : Int) (x : ItT) : (bodyR T x).length = 27 + 27 * x.f3.size := by
  unfold bodyR
  rw [List.length_append, rawByte_len, rawData_len, (toList_eq x.f3).2.2]
theorem item_len (T : Int) {x : ItT} (hd : x.f3.size ≤ 4096) (b : Bool) : (rawItem T x b).length ≤ 110627 := by
  have h1 := front_len T x b
  have h2 := stop_len T x
  have h3 := body_len T x
  unfold rawItem
  simp only [List.length_append, List.length_cons, List.length_nil]
  omega
def ItemOk (x : ItT) : Prop := ItOk x ∧ x.f0 ≤ 1048576
theorem item_put {k : Nat} {o : List RunT} (h : OkR k o) (hk : k ≤ 400000000) {T : Int} (hT : tOk T) {x : ItT} (hx : ItemOk x) (b : Bool) : line_item.f T o x.f0 x.f1 x.f2 x.f3 x.f4 b = some (puts o (rawItem T x b)) := by
  have hfo := front_ok hT hx.2 b
  have hfl := front_len T x b
  obtain ⟨⟨g0, g1, g3, g4, g5, g6⟩, hg⟩ := hx
  have hT' := hT
  unfold tOk at hT'
  unfold line_item.f
  rw [if_pos (by omega)]
  have e1 : line_item.a T o x.f0 b = some (puts o (frontR T x b)) := by
    unfold line_item.a frontR
    by_cases c : b = true
    · rw [if_pos c, if_pos c, put_eq h (by omega) (by omega)]
      rfl
    · rw [if_neg c, if_neg c]
      have h1 := putP_ok h (r := ⟨0, x.f0⟩) (r_ok (by omega) (by decide))
      have h2 := putP_ok h1 (r := ⟨2, T⟩) (r_ok (by omega) (by decide))
      rw [put_eq h (by omega) (by omega), Option.bind_some, put_eq h1 (by omega) (by omega), Option.bind_some, put_eq h2 (by omega) (by omega)]
      rfl
  have k1 := puts_ok _ h hfo
  have k2 := putP_ok k1 (r := ⟨1, T⟩) (r_ok (by omega) (by decide))
  have k3 := putP_ok k2 (r := ⟨0, T⟩) (r_ok (by omega) (by decide))
  have k4 := puts_ok (rawByte T x.f1 (if x.f4 = 10 then 1 else 0)) k3 (rawByte_ok hT (by split <;> simp))
  have k5 := puts_ok (rawData T x.f1 x.f3.toList) k4 (rawData_ok hT _)
  have ed : x.f3.toList.drop 0 = x.f3.toList := rfl
  rw [rawByte_len] at k4 k5
  rw [rawData_len, (toList_eq x.f3).2.2] at k5
  rw [e1, Option.bind_some, put_eq k1 (by omega) (by omega), Option.bind_some, put_eq k2 (by omega) (by omega), Option.bind_some]
  rw [show x.f1 % 256 = x.f1 by omega, bytes_put k3 (by omega) hT g1 (by split <;> simp), Option.bind_some]
  rw [item_g hT g1 x.f3 x.f3.size 0 _ _ k4 (by omega) (by omega), ed, Option.bind_some]
  have ez : line_item.z T (puts (puts (putP (putP (puts o (frontR T x b)) ⟨1, T⟩) ⟨0, T⟩) (rawByte T x.f1 (if x.f4 = 10 then 1 else 0))) (rawData T x.f1 x.f3.toList)) x.f2 = some (puts (puts (puts (putP (putP (puts o (frontR T x b)) ⟨1, T⟩) ⟨0, T⟩) (rawByte T x.f1 (if x.f4 = 10 then 1 else 0))) (rawData T x.f1 x.f3.toList)) (stopR T x)) := by
    unfold line_item.z stopR
    by_cases c : x.f2 = 1
    · have k6 := putP_ok k5 (r := ⟨0, T⟩) (r_ok (by omega) (by decide))
      have k7 := putP_ok k6 (r := ⟨1, T⟩) (r_ok (by omega) (by decide))
      rw [if_pos c, if_pos c, put_eq k5 (by omega) (by omega), Option.bind_some, put_eq k6 (by omega) (by omega), Option.bind_some, w64 (x := 4 * T) (by omega) (by omega), put_eq k7 (by omega) (by omega)]
      rfl
    · rw [if_neg c, if_neg c]
      rfl
  rw [ez]
  unfold rawItem bodyR
  rw [puts_append, puts_append, puts_append, puts_append]
  rfl
theorem items_put {T : Int} (hT : tOk T) : ∀ (l : List ItT) (b : Bool) (k : Nat) (o : List RunT), OkR k o → (∀ x ∈ l, ItemOk x) → k + 110627 * l.length ≤ 400000000 →
    i2c_Encode.items T b l o = some (puts o (rawAll T b l)) ∧ OkR (k + 110627 * l.length) (puts o (rawAll T b l))
  | [], b, k, o, h, hl, hk => ⟨rfl, h⟩
  | x :: l, b, k, o, h, hl, hk => by
    have hx := hl x (.head _)
    simp only [List.length_cons] at hk ⊢
    have h1 := puts_ok _ h (item_ok hT hx.2 b)
    have hlen := item_len T hx.1.2.2.2.1 b
    have h2 : OkR (k + 110627) (puts o (rawItem T x b)) := ⟨Nat.le_trans h1.1 (by omega), Int.le_trans h1.2.1 (by omega), h1.2.2⟩
    obtain ⟨e, ho⟩ := items_put hT l (x.f2 == 1) _ _ h2 (fun y hy => hl y (.tail _ hy)) (by omega)
    refine ⟨?_, ?_⟩
    · show (line_item.f T o x.f0 x.f1 x.f2 x.f3 x.f4 b).bind _ = _
      rw [item_put h (by omega) hT hx b, Option.bind_some, e, ← puts_append]
      rfl
    · rw [show k + 110627 * (l.length + 1) = k + 110627 + 110627 * l.length by omega]
      show OkR _ (puts o (rawItem T x b ++ rawAll T (x.f2 == 1) l))
      rw [puts_append]
      exact ho
def chkV (x : ItT) (last : Bool) : Int :=
  if x.f0 < 0 ∨ x.f0 > 1048576 then 1 else if x.f3.size > 4096 then 6 else if x.f1 < 0 ∨ x.f1 > 255 ∨ x.f2 < 0 ∨ x.f2 > 1 then 2 else if x.f4 ≠ 0 ∧ x.f4 ≠ 10 then 1 else if (x.f4 = 10 ∧ x.f3.size ≠ 0) ∨ (last = true ∧ x.f2 = 0) then 17 else 0
theorem check_item (k : Nat) (x : ItT) (b : Bool) : i2c_check.f (k + 3) x.f0 x.f1 x.f2 x.f3 x.f4 b = some (chkV x b) := by
  unfold i2c_check.f chkV
  by_cases c1 : x.f0 < 0
  · rw [if_pos c1, if_pos (.inl c1)]
    rfl
  · rw [if_neg c1]
    by_cases c2 : x.f0 > 1048576
    · rw [decide_eq_true c2, if_pos (.inr c2)]
      rfl
    · rw [decide_eq_false c2, if_neg (by omega)]
      simp only [i2c_check.j0, if_neg Bool.false_ne_true]
      by_cases c3 : x.f3.size > 4096
      · rw [if_pos (by omega), if_pos c3]
      · rw [if_neg (by omega), if_neg c3]
        by_cases c4 : x.f1 < 0 ∨ x.f1 > 255 ∨ x.f2 < 0 ∨ x.f2 > 1
        · rw [if_pos c4]
          by_cases d1 : x.f1 < 0
          · rw [if_pos d1]
            rfl
          · rw [if_neg d1]
            by_cases d2 : x.f1 > 255
            · rw [if_pos d2]
              rfl
            · rw [if_neg d2]
              by_cases d3 : x.f2 < 0
              · rw [if_pos d3]
                rfl
              · rw [if_neg d3, decide_eq_true (show x.f2 > 1 by omega)]
                rfl
        · rw [if_neg c4, if_neg (by omega), if_neg (by omega), if_neg (by omega), decide_eq_false (show ¬ x.f2 > 1 by omega)]
          simp only [i2c_check.j1, if_neg Bool.false_ne_true]
          have fin : ∀ q : Prop, ∀ _ : Decidable q, (q ↔ (x.f4 = 10 ∧ x.f3.size ≠ 0) ∨ (b = true ∧ x.f2 = 0)) → i2c_check.j2 (k + 1) b false x.f0 x.f1 x.f2 x.f3 x.f4 = some (if q then 17 else 0) := by
            intro q _ hq
            simp only [i2c_check.j2, if_neg Bool.false_ne_true, toList_nil]
            by_cases e1 : x.f4 = 10
            · rw [if_pos e1]
              by_cases e2 : x.f3.size = 0
              · rw [if_pos e2]
                by_cases e3 : b = true
                · rw [if_pos e3]
                  by_cases e4 : x.f2 = 0
                  · rw [if_pos e4, if_pos (hq.mpr (.inr ⟨e3, e4⟩))]
                  · rw [if_neg e4, if_neg (fun h => by rcases hq.mp h with h | h; exact h.2 e2; exact e4 h.2)]
                · rw [if_neg e3, if_neg (fun h => by rcases hq.mp h with h | h; exact h.2 e2; exact e3 h.1)]
              · rw [if_neg e2, if_pos (hq.mpr (.inl ⟨e1, e2⟩))]
            · rw [if_neg e1]
              by_cases e3 : b = true
              · rw [if_pos e3]
                by_cases e4 : x.f2 = 0
                · rw [if_pos e4, if_pos (hq.mpr (.inr ⟨e3, e4⟩))]
                · rw [if_neg e4, if_neg (fun h => by rcases hq.mp h with h | h; exact e1 h.1; exact e4 h.2)]
              · rw [if_neg e3, if_neg (fun h => by rcases hq.mp h with h | h; exact e1 h.1; exact e3 h.1)]
          by_cases c5 : x.f4 = 0
          · rw [if_pos c5, if_neg (by omega)]
            exact fin _ _ Iff.rfl
          · rw [if_neg c5]
            by_cases c6 : x.f4 = 10
            · have e6 : (x.f4 != 10) = false := by rw [c6]; rfl
              rw [e6, if_neg (by omega)]
              exact fin _ _ Iff.rfl
            · have e6 : (x.f4 != 10) = true := bne_iff_ne.mpr c6
              rw [e6, if_pos ⟨c5, c6⟩]
              rfl
theorem chkV_ok {x : ItT} {b : Bool} (h : chkV x b = 0) : ItemOk x ∧ (b = true → x.f2 = 1) := by
  unfold chkV at h
  by_cases c1 : x.f0 < 0 ∨ x.f0 > 1048576
  · rw [if_pos c1] at h
    exact absurd h (by decide)
  · rw [if_neg c1] at h
    by_cases c2 : x.f3.size > 4096
    · rw [if_pos c2] at h
      exact absurd h (by decide)
    · rw [if_neg c2] at h
      by_cases c3 : x.f1 < 0 ∨ x.f1 > 255 ∨ x.f2 < 0 ∨ x.f2 > 1
      · rw [if_pos c3] at h
        exact absurd h (by decide)
      · rw [if_neg c3] at h
        by_cases c4 : x.f4 ≠ 0 ∧ x.f4 ≠ 10
        · rw [if_pos c4] at h
          exact absurd h (by decide)
        · rw [if_neg c4] at h
          by_cases c5 : (x.f4 = 10 ∧ x.f3.size ≠ 0) ∨ (b = true ∧ x.f2 = 0)
          · rw [if_pos c5] at h
            exact absurd h (by decide)
          · exact ⟨⟨⟨by omega, by omega, by omega, by omega, by omega, fun e => by
              by_cases z : x.f3.size = 0
              · exact z
              · exact absurd (.inl ⟨e, z⟩) c5⟩, by omega⟩, fun e => by
              by_cases z : x.f2 = 0
              · exact absurd (.inr ⟨e, z⟩) c5
              · omega⟩
def chkA (n : Nat) : Nat → List ItT → Int
  | _, [] => 0
  | i, x :: r => if chkV x ((i : Int) == (n : Int) - 1) = 0 then chkA n (i + 1) r else chkV x ((i : Int) == (n : Int) - 1)
theorem chk_eq (k n : Nat) : ∀ (l : List ItT) (i : Nat), i2c_Encode.chk (k + 3) n i l = some (chkA n i l)
  | [], i => rfl
  | x :: l, i => by
    show (i2c_check.f (k + 3) x.f0 x.f1 x.f2 x.f3 x.f4 ((i : Int) == (n : Int) - 1)).bind _ = _
    rw [check_item, Option.bind_some, chkA]
    split
    · exact chk_eq k n l (i + 1)
    · rfl
theorem chkA_ok {n : Nat} : ∀ (l : List ItT) (i : Nat) (b : Bool), i + l.length = n → chkA n i l = 0 → (l = [] → b = true) → (∀ x ∈ l, ItemOk x) ∧ lastV b l
  | [], i, b, hn, h, hb => ⟨fun x hx => absurd hx (by simp), hb rfl⟩
  | x :: l, i, b, hn, h, hb => by
    simp only [List.length_cons] at hn
    rw [chkA] at h
    split at h
    · rename_i c
      obtain ⟨hx, hlast⟩ := chkV_ok c
      obtain ⟨h1, h2⟩ := chkA_ok l (i + 1) (x.f2 == 1) (by omega) h (fun e => by
        subst e
        rw [hlast (by simp only [List.length_nil] at hn; rw [beq_iff_eq]; omega)]
        rfl)
      exact ⟨fun y hy => by
        rcases List.mem_cons.mp hy with rfl | hy
        · exact hx
        · exact h1 y hy, h2⟩
    · rename_i c
      exact absurd h c
def outV (T : Int) (l : List ItT) : List RunT := puts [⟨3, 4 * T⟩] (rawAll T true l)
def encV (T : Int) (l : List ItT) : List RunT × Int :=
  if okC T then (if l.length > 1024 then ([], 6) else if chkA l.length 0 l = 0 then (if (outV T l).length > 262144 then ([], 6) else if sumT (outV T l) > 1099511627776 then ([], 2) else (outV T l, 0)) else ([], chkA l.length 0 l)) else ([], 2)
theorem left_eq : ∀ (l : List RunT) (a : Int), (∀ r ∈ l, 1 ≤ r.f1) → a ≤ 1099511627776 → -9223372036854775808 ≤ a - sumT l → i2c_Encode.left a l = a - sumT l
  | [], a, h, ha, hb => by simp [i2c_Encode.left, sumT]
  | r :: l, a, h, ha, hb => by
    have h1 := h r (.head _)
    have h2 := sum_nonneg (fun x hx => h x (.tail _ hx) : ∀ x ∈ l, 1 ≤ x.f1)
    simp only [sumT] at hb ⊢
    rw [i2c_Encode.left, w64 (by omega) (by omega), left_eq l _ (fun x hx => h x (.tail _ hx)) (by omega) (by omega)]
    omega
theorem out_ok {T : Int} (hT : tOk T) {l : List ItT} (hl : l.length ≤ 1024) (h : chkA l.length 0 l = 0) : OkR (1 + 110627 * l.length) (outV T l) ∧ i2c_Encode.items T true l [⟨3, 4 * T⟩] = some (outV T l) := by
  obtain ⟨h1, h2⟩ := chkA_ok l 0 true (by omega) h (fun _ => rfl)
  have h0 : OkR 1 [⟨3, 4 * T⟩] := by
    have hT' := hT
    unfold tOk at hT'
    refine ⟨Nat.le_refl _, by simp only [sumT]; omega, fun y hy => ?_⟩
    rw [List.mem_singleton.mp hy]
    exact ⟨by show 1 ≤ 4 * T; omega, by show (0 : Int) ≤ 3; decide, by show (3 : Int) ≤ 3; decide⟩
  obtain ⟨e, ho⟩ := items_put hT l true 1 _ h0 h1 (by omega)
  exact ⟨ho, e⟩
theorem enc_at {T : Int} (l : List ItT) {k : Nat} (hk : 3 ≤ k) : i2c_Encode.f k T l = some (encV T l) := by
  obtain ⟨j, rfl⟩ : ∃ j, k = j + 3 := ⟨k - 3, by omega⟩
  unfold i2c_Encode.f encV
  rw [(check_eq T).1, Option.bind_some]
  by_cases hc : okC T
  · rw [check_ok hc, if_pos rfl, if_pos hc]
    by_cases hl : l.length > 1024
    · rw [if_pos (by omega), if_pos hl]
    · rw [if_neg (by omega), if_neg hl, chk_eq, Option.bind_some]
      by_cases h0 : chkA l.length 0 l = 0
      · rw [if_pos h0, if_pos h0]
        obtain ⟨ho, e⟩ := out_ok (T := T) hc (by omega) h0
        have hT' := hc
        unfold okC at hT'
        unfold i2c_Encode.rest
        rw [w64 (x := 4 * T) (by omega) (by omega), put_eq (k := 0) ⟨Nat.le_refl _, by simp [sumT], fun y hy => absurd hy (by simp)⟩ (by omega) (by omega), Option.bind_some]
        have e0 : putP [] ⟨3, 4 * T⟩ = [⟨3, 4 * T⟩] := by
          unfold putP
          rw [if_neg (by show ¬ 4 * T < 1; omega)]
          rfl
        rw [e0, e, Option.bind_some]
        have hs := ho.2.1
        have hn := sum_nonneg (fun y hy => (ho.2.2 y hy).1)
        rw [left_eq _ _ (fun y hy => (ho.2.2 y hy).1) (by omega) (by omega)]
        by_cases c1 : (outV T l).length > 262144
        · rw [if_pos (by omega), if_pos c1]
        · rw [if_neg (by omega), if_neg c1]
          by_cases c2 : sumT (outV T l) > 1099511627776
          · rw [if_pos (by omega), if_pos c2]
          · rw [if_neg (by omega), if_neg c2]
      · rw [if_neg h0, if_neg h0]
  · rw [check_no hc, if_neg (by decide), if_neg hc]
/-- What is encoded without an error. -/
theorem enc_good {T : Int} {l : List ItT} (h : (encV T l).2 = 0) : okC T ∧ (encV T l).1 = outV T l ∧ (outV T l).length ≤ 262144 ∧ sumT (outV T l) ≤ 1099511627776 ∧ (∀ y ∈ outV T l, 1 ≤ y.f1 ∧ 0 ≤ y.f0 ∧ y.f0 ≤ 3) ∧ (∀ x ∈ l, ItOk x) ∧ lastV true l ∧ l.length ≤ 1024 := by
  unfold encV at h ⊢
  by_cases hc : okC T
  · rw [if_pos hc] at h ⊢
    by_cases hl : l.length > 1024
    · rw [if_pos hl] at h
      exact absurd h (by decide : ¬ (6 : Int) = 0)
    · rw [if_neg hl] at h ⊢
      by_cases h0 : chkA l.length 0 l = 0
      · rw [if_pos h0] at h ⊢
        by_cases c1 : (outV T l).length > 262144
        · rw [if_pos c1] at h
          exact absurd h (by decide : ¬ (6 : Int) = 0)
        · rw [if_neg c1] at h ⊢
          by_cases c2 : sumT (outV T l) > 1099511627776
          · rw [if_pos c2] at h
            exact absurd h (by decide : ¬ (2 : Int) = 0)
          · rw [if_neg c2]
            obtain ⟨h1, h2⟩ := chkA_ok l 0 true (by omega) h0 (fun _ => rfl)
            exact ⟨hc, rfl, by omega, by omega, (out_ok (T := T) hc (by omega) h0).1.2.2, fun x hx => (h1 x hx).1, h2, by omega⟩
      · rw [if_neg h0] at h
        exact absurd h h0
  · rw [if_neg hc] at h
    exact absurd h (by decide : ¬ (2 : Int) = 0)
def expV (T : Int) (l : List ItT) : List EvT × Int := if (encV T l).2 = 0 then (decV T (levV 0 (outV T l)), 0) else ([], (encV T l).2)
theorem exp_ev (T : Int) (l : List ItT) : Ev (fun k => i2c_Expect.f k T l) (expV T l) := by
  unfold expV
  by_cases h : (encV T l).2 = 0
  · rw [if_pos h]
    obtain ⟨hc, e, h1, h2, h3, h4, h5, h6⟩ := enc_good h
    have hx := expect_l0 (c := T) (outV T l) [] [] 0 (Int.le_refl _) (fun y hy => (h3 y hy).1) (by omega) (by simpa using h1) (by simpa using h1)
    refine ev_same 3 (fun k hk => ?_) hx
    unfold i2c_Expect.f
    rw [enc_at l hk, Option.bind_some, if_pos h, e]
    rfl
  · rw [if_neg h]
    refine ev_same (f := fun _ => some ([], (encV T l).2)) 3 (fun k hk => ?_) (Ev.now _)
    unfold i2c_Expect.f
    rw [enc_at l hk, Option.bind_some, if_neg h]
theorem awk {g : Nat → Option Bool} (n : Nat) (h : ∀ k, n ≤ k → g k = (signalbenchlaw23_awake.f k).bind fun t => some t) : Ev g true := ev_same n h awake23_then
theorem step_no {c : Int} (hc : ¬ okC c) (k : Nat) (a0 a1 a2 a3 a4 a5 a6 : Int) (a7 : ByteArray) (b0 b1 b2 b3 b4 : Int) (b5 : ByteArray) (b6 : Int) : i2c_Step.f (k + 1) c a0 a1 a2 a3 a4 a5 a6 a7 b0 b1 b2 b3 b4 b5 b6 = some (a0, a1, a2, a3, a4, a5, a6, a7, []) := by
  unfold i2c_Step.f
  rw [(check_eq c).1, Option.bind_some, check_no hc, if_neg (by decide)]
  rfl
theorem runV_no {c : Int} (hc : ¬ okC c) : ∀ (l : List EvT) (s : StT), runV c s l = (s, [])
  | [], s => rfl
  | x :: l, s => by
    have e : stepV c s x = (s, []) := by
      unfold stepV
      rw [if_neg (fun h => hc h.1)]
    simp only [runV, e, runV_no hc l s, List.append_nil]
theorem decV_no {c : Int} (hc : ¬ okC c) (l : List EvT) : decV c l = [] := by
  unfold decV endV
  rw [runV_no hc, if_neg (fun h => hc h.1)]
  rfl
theorem I2cChecks_pure (c a0 a1 a2 a3 a4 a5 a6 : Int) (a7 : ByteArray) (b0 b1 b2 b3 b4 : Int) (b5 : ByteArray) (b6 : Int) : ∃ k, signalbenchlaw23_I2cChecks.f k c a0 a1 a2 a3 a4 a5 a6 a7 b0 b1 b2 b3 b4 b5 b6 = some true := by
  refine Ev.rounds ?_
  unfold signalbenchlaw23_I2cChecks.f
  rw [(check_eq c).1, (check_eq c).2]
  by_cases hc : okC c
  · refine awk 0 (fun k _ => ?_)
    rw [Option.bind_some, Option.bind_some, if_pos rfl, check_ok hc, if_pos rfl]
  · have he : encV c [] = ([], 2) := if_neg hc
    have hx : expV c [] = ([], 2) := by
      unfold expV
      rw [he, if_neg (by decide)]
    refine ev_same (f := fun k => _) 0 (fun k _ => by rw [Option.bind_some, Option.bind_some, if_pos rfl, check_no hc, if_neg (by decide)]) ?_
    refine Ev.bind (ev_from 1 (fun k => step_no hc k a0 a1 a2 a3 a4 a5 a6 a7 b0 b1 b2 b3 b4 b5 b6)) ?_
    refine Ev.bind (ev_from 3 (fun k => enc_at (T := c) [] (k := k + 3) (by omega))) ?_
    refine Ev.bind (exp_ev c []) ?_
    rw [he, hx]
    have hd := dec_ev c (l := [⟨b0, b1, b2, b3, b4, b5, b6⟩]) (by simp)
    rw [decV_no hc] at hd
    have h8 : i2c_End.f c a0 a1 a2 a3 a4 a5 a6 a7 = some [] := by
      rw [end_eq c ⟨a0, a1, a2, a3, a4, a5, a6, a7⟩]
      unfold endV
      rw [if_neg (fun h => hc h.1)]
    have hfin := Ev.bind (f := fun k (t318 : List EvT) => if (t318.length : Int) = 0 then ((signalbenchlaw23_awake.f k).bind fun t321 => some t321) else none) hd (awk 0 (fun k _ => by rw [if_pos (show (([] : List EvT).length : Int) = 0 from rfl)]))
    refine ev_same 0 (fun k _ => ?_) hfin
    unfold i2c_Start.f
    rw [Option.bind_some, if_pos (by decide +kernel), if_pos (by simp), if_pos (by rfl), h8, Option.bind_some, if_pos (by rfl)]
    refine congrArg _ (funext fun t => ?_)
    by_cases ht : (t.length : Int) = 0
    · rw [if_pos ht, if_pos ht]
      exact (if_pos (show (([] : List RunT).length : Int) = 0 from rfl)).trans ((if_pos rfl).trans ((if_pos (show (([] : List EvT).length : Int) = 0 from rfl)).trans (if_pos rfl)))
    · rw [if_neg ht, if_neg ht]
end Go.Proofs.Ytdbpablakhfdcaa
