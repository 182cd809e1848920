/- The law I2cResumes as a plain statement on numbers and lists: with enough rounds it answers true; conditions: each number is one of its kind, no list or string is longer than its memory allows. -/
import Derived.Laws.BitsAllLaws
import Derived.WalkKit
import Derived.Test.YtdbpablakhfdcaaWMore
import Derived.Test.YtdbpablakhfdcaaQx0
import Derived.Test.YtdbpablakhfdcaaQx4
import Derived.Test.YtdbpablakhfdcaaQx12
import Derived.Test.YtdbpablakhfdcaaQx14
import Derived.Test.YtdbpablakhfdcaaQx15
import Derived.Test.YtdbpablakhfdcaaQx16
import Derived.Test.YtdbpablakhfdcaaQx17
import Derived.Test.YtdbpablakhfdcaaQx20
import Derived.Test.YtdbpablakhfdcaaQx22
import Derived.Test.YtdbpablakhfdcaaQx23
import Derived.Test.YtdbpablakhfdcaaQx26
import Derived.Test.YtdbpablakhfdcaaQx27
import Derived.Test.YtdbpablakhfdcaaQx28
import Derived.Test.YtdbpablakhfdcaaQx29
import Derived.Test.YtdbpablakhfdcaaQx39
namespace Go.Proofs.Ytdbpablakhfdcaa
open Go Go.RowKit Go.Proofs.YtdbpablakhfdcaaW.PrintWords Go.Proofs.YtdbpablakhfdcaaW.PrintLast Go.Proofs.Ytdbpablakhfdcaa.Q
set_option linter.unusedVariables false
theorem w64 {x : Int} (h0 : -9223372036854775808 ≤ x) (h1 : x ≤ 9223372036854775807) : wrap64 x = x := by
  unfold wrap64
  omega
theorem succ_mid {α : Type} (pre : List α) (x : α) (h : pre.length ≤ 9223372036854775806) : wrap64 ((pre.length : Int) + 1) = ((pre ++ [x]).length : Int) := by
  rw [w64 (by omega) (by omega)]
  simp
theorem mid_snoc {α : Type} (pre post : List α) (x : α) : pre ++ x :: post = (pre ++ [x]) ++ post := by simp
abbrev RunT := S53
abbrev ItT := S49
abbrev EvT := S27
structure StT where
  f0 : Int
  f1 : Int
  f2 : Int
  f3 : Int
  f4 : Int
  f5 : Int
  f6 : Int
  f7 : ByteArray
def chgV (was is : Int) : Int :=
  if was % 2 = 1 ∧ is % 2 = 1 ∧ was / 2 = 1 ∧ is / 2 = 0 then 1
  else if was % 2 = 1 ∧ is % 2 = 1 ∧ was / 2 = 0 ∧ is / 2 = 1 then 2
  else if was % 2 = 0 ∧ is % 2 = 1 then 3 else 0
def auxV (a v : Int) (d : Nat) : Int := (if a / 2 % 2 = 1 then 1 else a % 2) + 2 * (if v = 0 then 0 else 1) + 4 * (if d ≤ 4096 then a / 4 % 2 else 1)
def bitV (s : StT) (v : Int) : StT :=
  if s.f3 < 8 then ⟨s.f0, s.f1, s.f2, s.f3 + 1, 2 * s.f4 + v, s.f5, s.f6, s.f7⟩
  else ⟨s.f0, s.f1, s.f2, 0, 0, auxV s.f5 v s.f7.size, s.f6, if s.f7.size ≤ 4096 then s.f7 ++ ⟨#[UInt8.ofNat s.f4.toNat]⟩ else s.f7⟩
def fltV (s : StT) : Int := if s.f5 / 4 % 2 = 1 then 8 else if s.f3 > 1 then 7 else if s.f5 % 2 = 1 then 10 else if s.f5 / 2 % 2 = 1 ∧ ¬ (s.f7.size > 1 ∧ (s.f7.get! 0).toNat % 2 = 1) then 10 else 0
def frmV (s : StT) (en stop : Int) : EvT := ⟨5, s.f2, en, if s.f7.size = 0 then -1 else ((s.f7.get! 0).toNat : Int), stop, s.f7.extract 1 s.f7.size, fltV s⟩
def goV (s : StT) (a b v : Int) : StT × List EvT :=
  if s.f0 = 0 then (⟨1, b, 0, 0, 0, 0, v, (⟨#[]⟩ : ByteArray)⟩, [])
  else if chgV s.f6 v = 1 then (⟨2, b, a, 0, 0, 0, v, (⟨#[]⟩ : ByteArray)⟩, if s.f0 = 2 then [frmV s a 0] else [])
  else if chgV s.f6 v = 2 then (⟨1, b, 0, 0, 0, 0, v, (⟨#[]⟩ : ByteArray)⟩, if s.f0 = 2 then [frmV s a 1] else [])
  else if chgV s.f6 v = 3 ∧ s.f0 = 2 then (bitV ⟨s.f0, b, s.f2, s.f3, s.f4, s.f5, v, s.f7⟩ (v / 2), [])
  else (⟨s.f0, b, s.f2, s.f3, s.f4, s.f5, v, s.f7⟩, [])
theorem bitV_prev (s : StT) (v : Int) : (bitV s v).f6 = s.f6 ∧ (bitV s v).f0 = s.f0 ∧ (bitV s v).f1 = s.f1 := by
  unfold bitV
  split <;> exact ⟨rfl, rfl, rfl⟩
theorem goV_end (s : StT) (a b v : Int) : (goV s a b v).1.f6 = v ∧ (goV s a b v).1.f0 ≠ 0 ∧ (goV s a b v).1.f1 = b := by
  unfold goV
  split
  · exact ⟨rfl, (by decide : (1 : Int) ≠ 0), rfl⟩
  · split
    · exact ⟨rfl, (by decide : (2 : Int) ≠ 0), rfl⟩
    · split
      · exact ⟨rfl, (by decide : (1 : Int) ≠ 0), rfl⟩
      · split
        · obtain ⟨h1, h2, h3⟩ := bitV_prev ⟨s.f0, b, s.f2, s.f3, s.f4, s.f5, v, s.f7⟩ (v / 2)
          exact ⟨h1, by rw [h2]; assumption, h3⟩
        · exact ⟨rfl, by assumption, rfl⟩
def walk : StT → Int → List RunT → StT × List EvT
  | s, _, [] => (s, [])
  | s, t, r :: l => ((walk (goV s t (t + r.f1) r.f0).1 (t + r.f1) l).1, (goV s t (t + r.f1) r.f0).2 ++ (walk (goV s t (t + r.f1) r.f0).1 (t + r.f1) l).2)
def sumT : List RunT → Int
  | [] => 0
  | r :: l => r.f1 + sumT l
theorem snoc_cases {α : Type} (o : List α) : o = [] ∨ ∃ q y, o = q ++ [y] := by
  rcases List.eq_nil_or_concat o with h | ⟨q, y, h⟩
  · exact .inl h
  · exact .inr ⟨q, y, by simpa using h⟩
def putR (o : List RunT) (v t : Int) : List RunT :=
  match o.getLast? with
  | some y => if y.f0 = v then o.dropLast ++ [⟨y.f0, y.f1 + t⟩] else o ++ [⟨v, t⟩]
  | none => [⟨v, t⟩]
theorem putR_nil (v t : Int) : putR [] v t = [⟨v, t⟩] := rfl
theorem putR_same (o : List RunT) (y : RunT) (t : Int) : putR (o ++ [y]) y.f0 t = o ++ [⟨y.f0, y.f1 + t⟩] := by
  simp [putR]
theorem putR_new (o : List RunT) (y : RunT) {v t : Int} (h : ¬ y.f0 = v) : putR (o ++ [y]) v t = o ++ [y] ++ [⟨v, t⟩] := by
  simp [putR, h]
def putP (o : List RunT) (r : RunT) : List RunT := if r.f1 < 1 then o else putR o r.f0 r.f1
theorem sumT_append : ∀ (p q : List RunT), sumT (p ++ q) = sumT p + sumT q
  | [], q => by simp [sumT]
  | r :: p, q => by
    simp only [List.cons_append, sumT]
    rw [sumT_append p q, Int.add_assoc]
theorem sumT_putR (o : List RunT) (v n : Int) : sumT (putR o v n) = sumT o + n := by
  rcases snoc_cases o with h | ⟨q, y, h⟩
  · subst h
    simp [putR_nil, sumT]
  · subst h
    by_cases c : y.f0 = v
    · subst c
      rw [putR_same, sumT_append, sumT_append]
      simp only [sumT]
      omega
    · rw [putR_new _ _ c, sumT_append]
      simp only [sumT]
      omega
def rawBit (T v : Int) : List RunT := [⟨2 * v, T⟩, ⟨2 * v + 1, 2 * T⟩, ⟨2 * v, T⟩]
def rawBits (T : Int) : List Int → List RunT
  | [] => []
  | v :: l => rawBit T v ++ rawBits T l
def bits8 (b : Int) : List Int := [b / 128 % 2, b / 64 % 2, b / 32 % 2, b / 16 % 2, b / 8 % 2, b / 4 % 2, b / 2 % 2, b % 2]
def rawByte (T b ack : Int) : List RunT := rawBits T (bits8 b ++ [ack])
def rawData (T value : Int) : List UInt8 → List RunT
  | [] => []
  | b :: l => rawByte T b.toNat (if l = [] ∧ value % 2 = 1 then 1 else 0) ++ rawData T value l
theorem goV_1 (s : StT) (a b w : Int) (h0 : s.f0 ≠ 0) (hc : chgV s.f6 w = 1) : goV s a b w = (⟨2, b, a, 0, 0, 0, w, (⟨#[]⟩ : ByteArray)⟩, if s.f0 = 2 then [frmV s a 0] else []) := by
  unfold goV
  rw [hc, if_neg h0, if_pos rfl]
theorem goV_2 (s : StT) (a b w : Int) (h0 : s.f0 ≠ 0) (hc : chgV s.f6 w = 2) : goV s a b w = (⟨1, b, 0, 0, 0, 0, w, (⟨#[]⟩ : ByteArray)⟩, if s.f0 = 2 then [frmV s a 1] else []) := by
  unfold goV
  rw [hc, if_neg h0, if_neg (by decide), if_pos rfl]
def ItOk (x : ItT) : Prop := 0 ≤ x.f0 ∧ (0 ≤ x.f1 ∧ x.f1 ≤ 255) ∧ (x.f2 = 0 ∨ x.f2 = 1) ∧ x.f3.size ≤ 4096 ∧ (x.f4 = 0 ∨ x.f4 = 10) ∧ (x.f4 = 10 → x.f3.size = 0)
theorem sum_nonneg {l : List RunT} (h : ∀ r ∈ l, 1 ≤ r.f1) : 0 ≤ sumT l := by
  induction l with
  | nil => exact Int.le_refl 0
  | cons r l ih =>
    have h1 := h r (.head _)
    have h2 := ih (fun y hy => h y (.tail _ hy))
    simp only [sumT]
    omega
def bodyR (T : Int) (x : ItT) : List RunT := rawByte T x.f1 (if x.f4 = 10 then 1 else 0) ++ rawData T x.f1 x.f3.toList
theorem toList_eq (d : ByteArray) : d.toList.toArray = d.data ∧ (d.toList = [] ↔ d.size = 0) ∧ d.toList.length = d.size := by
  have e : d.toList = d.data.toList := by simp [ByteArray.toList_eq]
  refine ⟨by rw [e], ?_, by rw [e]; rfl⟩
  rw [e]
  exact ⟨fun h => by show d.data.toList.length = 0; rw [h]; rfl, fun h => List.length_eq_zero_iff.mp h⟩
def frontR (T : Int) (x : ItT) (first : Bool) : List RunT := if first = true then [⟨3, x.f0⟩] else [⟨0, x.f0⟩] ++ [⟨2, T⟩, ⟨3, T⟩]
def stopR (T : Int) (x : ItT) : List RunT := if x.f2 = 1 then [⟨0, T⟩, ⟨1, T⟩, ⟨3, 4 * T⟩] else []
def rawItem (T : Int) (x : ItT) (first : Bool) : List RunT := frontR T x first ++ (([⟨1, T⟩, ⟨0, T⟩] ++ bodyR T x) ++ stopR T x)
def rawAll (T : Int) : Bool → List ItT → List RunT
  | _, [] => []
  | b, x :: l => rawItem T x b ++ rawAll T (x.f2 == 1) l
def lastV : Bool → List ItT → Prop
  | b, [] => b = true
  | _, x :: l => lastV (x.f2 == 1) l
theorem ev_from {α : Type} {g : Nat → Option α} {r : α} (n : Nat) (h : ∀ k, g (k + n) = some r) : Ev g r :=
  ⟨n, fun k hk => by have := h (k - n); rwa [show k - n + n = k by omega] at this⟩
abbrev TupT := Int × Int × Int × Int × Int × Int × Int × ByteArray
def pk (s : StT) (o : List EvT) : Int × Int × Int × Int × Int × Int × Int × ByteArray × List EvT := (s.f0, s.f1, s.f2, s.f3, s.f4, s.f5, s.f6, s.f7, o)
abbrev okC (c : Int) : Prop := 1 ≤ c ∧ c ≤ 1048576
abbrev validP (x : EvT) : Prop := (1 ≤ x.f0 ∧ x.f0 ≤ 8) ∧ (0 ≤ x.f1 ∧ x.f1 ≤ x.f2 ∧ x.f2 ≤ 1099511627776) ∧ (-9007199254740992 ≤ x.f3 ∧ x.f3 ≤ 9007199254740992) ∧ (-9007199254740992 ≤ x.f4 ∧ x.f4 ≤ 9007199254740992) ∧ x.f5.size ≤ 4096 ∧ (0 ≤ x.f6 ∧ x.f6 ≤ 12)
abbrev accP (s : StT) (x : EvT) : Prop := validP x ∧ x.f0 = 1 ∧ x.f6 = 0 ∧ x.f1 < x.f2 ∧ (0 ≤ x.f3 ∧ x.f3 ≤ 3) ∧ (s.f0 = 0 ∨ x.f1 = s.f1)
def stepV (c : Int) (s : StT) (x : EvT) : StT × List EvT := if okC c ∧ accP s x then goV s x.f1 x.f2 x.f3 else (s, [])
def check_i2c (c : Int) : Int := if okC c then 0 else 2
theorem check_eq (c : Int) : i2c_Check.f c = some (check_i2c c) ∧ signalbenchref23_Check.f c = some (check_i2c c) := by
  unfold i2c_Check.f signalbenchref23_Check.f check_i2c okC
  by_cases h0 : c < 1
  · rw [if_pos h0, if_neg (by omega)]
    exact ⟨rfl, rfl⟩
  · rw [if_neg h0]
    by_cases h1 : c > 1048576
    · rw [if_pos h1, if_neg (by omega)]
      exact ⟨rfl, rfl⟩
    · rw [if_neg h1, if_pos (by omega)]
      exact ⟨rfl, rfl⟩
theorem check_ok {c : Int} (h : okC c) : check_i2c c = 0 := if_pos h
theorem check_no {c : Int} (h : ¬ okC c) : check_i2c c = 2 := if_neg h
theorem evValid_eq (k : Nat) (x : EvT) : event_Valid.f (k + 2) x.f0 x.f1 x.f2 x.f3 x.f4 x.f5 x.f6 = some (decide (validP x)) := by
  unfold event_Valid.f
  by_cases c1 : x.f0 < 1
  · rw [decide_eq_false (p := validP x) (fun h => by obtain ⟨⟨a1, a2⟩, ⟨b1, b2, b3⟩, ⟨d1, d2⟩, ⟨e1, e2⟩, g, ⟨i1, i2⟩⟩ := h; omega)]
    rw [if_pos c1]
    rfl
  · rw [if_neg c1]
    by_cases c2 : x.f0 > 8
    · rw [decide_eq_false (p := validP x) (fun h => by obtain ⟨⟨a1, a2⟩, ⟨b1, b2, b3⟩, ⟨d1, d2⟩, ⟨e1, e2⟩, g, ⟨i1, i2⟩⟩ := h; omega)]
      rw [decide_eq_true c2]
      rfl
    · rw [decide_eq_false c2]
      simp only [event_Valid.j0, if_neg Bool.false_ne_true]
      by_cases c3 : x.f1 < 0
      · rw [decide_eq_false (p := validP x) (fun h => by obtain ⟨⟨a1, a2⟩, ⟨b1, b2, b3⟩, ⟨d1, d2⟩, ⟨e1, e2⟩, g, ⟨i1, i2⟩⟩ := h; omega)]
        rw [if_pos c3]
        rfl
      · rw [if_neg c3]
        by_cases c4 : x.f1 > x.f2
        · rw [decide_eq_false (p := validP x) (fun h => by obtain ⟨⟨a1, a2⟩, ⟨b1, b2, b3⟩, ⟨d1, d2⟩, ⟨e1, e2⟩, g, ⟨i1, i2⟩⟩ := h; omega)]
          rw [if_pos c4]
          rfl
        · rw [if_neg c4]
          by_cases c5 : x.f2 > 1099511627776
          · rw [decide_eq_false (p := validP x) (fun h => by obtain ⟨⟨a1, a2⟩, ⟨b1, b2, b3⟩, ⟨d1, d2⟩, ⟨e1, e2⟩, g, ⟨i1, i2⟩⟩ := h; omega)]
            rw [decide_eq_true c5]
            rfl
          · rw [decide_eq_false c5]
            simp only [event_Valid.j1, if_neg Bool.false_ne_true]
            by_cases c6 : x.f3 < -9007199254740992
            · rw [decide_eq_false (p := validP x) (fun h => by obtain ⟨⟨a1, a2⟩, ⟨b1, b2, b3⟩, ⟨d1, d2⟩, ⟨e1, e2⟩, g, ⟨i1, i2⟩⟩ := h; omega)]
              rw [if_pos c6]
            · rw [if_neg c6]
              by_cases c7 : x.f3 > 9007199254740992
              · rw [decide_eq_false (p := validP x) (fun h => by obtain ⟨⟨a1, a2⟩, ⟨b1, b2, b3⟩, ⟨d1, d2⟩, ⟨e1, e2⟩, g, ⟨i1, i2⟩⟩ := h; omega)]
                rw [if_pos c7]
              · rw [if_neg c7]
                by_cases c8 : x.f4 < -9007199254740992
                · rw [decide_eq_false (p := validP x) (fun h => by obtain ⟨⟨a1, a2⟩, ⟨b1, b2, b3⟩, ⟨d1, d2⟩, ⟨e1, e2⟩, g, ⟨i1, i2⟩⟩ := h; omega)]
                  rw [if_pos c8]
                · rw [if_neg c8]
                  by_cases c9 : x.f4 > 9007199254740992
                  · rw [decide_eq_false (p := validP x) (fun h => by obtain ⟨⟨a1, a2⟩, ⟨b1, b2, b3⟩, ⟨d1, d2⟩, ⟨e1, e2⟩, g, ⟨i1, i2⟩⟩ := h; omega)]
                    rw [if_pos c9]
                  · rw [if_neg c9]
                    by_cases c10 : (x.f5.size : Int) > 4096
                    · rw [decide_eq_false (p := validP x) (fun h => by obtain ⟨⟨a1, a2⟩, ⟨b1, b2, b3⟩, ⟨d1, d2⟩, ⟨e1, e2⟩, g, ⟨i1, i2⟩⟩ := h; omega)]
                      rw [if_neg (by omega)]
                    · rw [if_pos (by omega)]
                      by_cases c11 : x.f6 < 0
                      · rw [decide_eq_false (p := validP x) (fun h => by obtain ⟨⟨a1, a2⟩, ⟨b1, b2, b3⟩, ⟨d1, d2⟩, ⟨e1, e2⟩, g, ⟨i1, i2⟩⟩ := h; omega)]
                        rw [if_neg (by omega)]
                      · rw [if_pos (by omega)]
                        by_cases c12 : x.f6 > 12
                        · rw [decide_eq_false (p := validP x) (fun h => by obtain ⟨⟨a1, a2⟩, ⟨b1, b2, b3⟩, ⟨d1, d2⟩, ⟨e1, e2⟩, g, ⟨i1, i2⟩⟩ := h; omega)]
                          rw [decide_eq_false (by omega)]
                        · rw [decide_eq_true (by omega), decide_eq_true (show validP x from ⟨by omega, by omega, by omega, by omega, by omega, by omega⟩)]
theorem acc_tail (s : StT) (x : EvT) : (if decide (validP x) = true then (if x.f0 = 1 then (if x.f6 = 0 then (if x.f1 ≥ x.f2 then (some false) else (if x.f3 < 0 then (some false) else (if x.f3 > 3 then (some false) else (if s.f0 = 0 then (some true) else (some (x.f1 == s.f1)))))) else (some false)) else (some false)) else (some false)) = some (decide (accP s x)) := by
  by_cases hv : validP x
  · rw [if_pos (decide_eq_true hv)]
    by_cases h1 : x.f0 = 1
    · rw [if_pos h1]
      by_cases h2 : x.f6 = 0
      · rw [if_pos h2]
        by_cases h3 : x.f1 ≥ x.f2
        · rw [if_pos h3, decide_eq_false (fun h => by have := h.2.2.2.1; omega)]
        · rw [if_neg h3]
          by_cases h4 : x.f3 < 0
          · rw [if_pos h4, decide_eq_false (fun h => by have := h.2.2.2.2.1; omega)]
          · rw [if_neg h4]
            by_cases h5 : x.f3 > 3
            · rw [if_pos h5, decide_eq_false (fun h => by have := h.2.2.2.2.1; omega)]
            · rw [if_neg h5]
              by_cases h6 : s.f0 = 0
              · rw [if_pos h6, decide_eq_true (show accP s x from ⟨hv, h1, h2, by omega, by omega, .inl h6⟩)]
              · rw [if_neg h6]
                by_cases h7 : x.f1 = s.f1
                · rw [decide_eq_true (show accP s x from ⟨hv, h1, h2, by omega, by omega, .inr h7⟩), beq_iff_eq.mpr h7]
                · rw [decide_eq_false (fun h : accP s x => by have := h.2.2.2.2.2; omega), beq_eq_false_iff_ne.mpr h7]
      · rw [if_neg h2, decide_eq_false (fun h => h2 h.2.2.1)]
    · rw [if_neg h1, decide_eq_false (fun h => h1 h.2.1)]
  · rw [if_neg (by simp [hv]), decide_eq_false (fun h => hv h.1)]
theorem accepted_eq (k : Nat) (s : StT) (x : EvT) : i2c_accepted.f (k + 2) s.f0 s.f1 s.f2 s.f3 s.f4 s.f5 s.f6 s.f7 x.f0 x.f1 x.f2 x.f3 x.f4 x.f5 x.f6 = some (decide (accP s x)) := by
  unfold i2c_accepted.f
  rw [evValid_eq, Option.bind_some]
  exact acc_tail s x
theorem four {a : Int} (h : 0 ≤ a ∧ a ≤ 3) : a = 0 ∨ a = 1 ∨ a = 2 ∨ a = 3 := by omega
theorem change_eq (k : Nat) {a b : Int} (ha : 0 ≤ a ∧ a ≤ 3) (hb : 0 ≤ b ∧ b ≤ 3) : i2c_change.f (k + 2) a b = some (chgV a b) := by
  rcases four ha with rfl | rfl | rfl | rfl <;> rcases four hb with rfl | rfl | rfl | rfl <;> rfl
def SegI (s : StT) : Prop := (0 ≤ s.f3 ∧ s.f3 ≤ 8) ∧ (0 ≤ s.f4 ∧ s.f4 < 2 ^ s.f3.toNat) ∧ (0 ≤ s.f5 ∧ s.f5 ≤ 7) ∧ s.f7.size ≤ 4097
def Inv (s : StT) : Prop := (0 ≤ s.f6 ∧ s.f6 ≤ 3) ∧ (s.f0 = 2 → SegI s)
theorem pow8 {n : Int} (h : 0 ≤ n ∧ n ≤ 8) {a : Int} (ha : a < 2 ^ n.toNat) : a ≤ 255 := by
  have h1 : n.toNat ≤ 8 := by omega
  have h2 : (2 : Nat) ^ n.toNat ≤ 2 ^ 8 := Nat.pow_le_pow_right (by decide) h1
  have h3 : ((2 : Int) ^ n.toNat) = ((2 ^ n.toNat : Nat) : Int) := by push_cast; rfl
  omega
theorem auxV_bound {a v : Int} (d : Nat) (h : 0 ≤ a ∧ a ≤ 7) : 0 ≤ auxV a v d ∧ auxV a v d ≤ 7 := by
  unfold auxV
  split <;> split <;> split <;> omega
theorem bitV_segI {s : StT} (h : SegI s) {v : Int} (hv : v = 0 ∨ v = 1) : SegI (bitV s v) := by
  obtain ⟨h3, h4, h5, h7⟩ := h
  unfold bitV
  by_cases c : s.f3 < 8
  · rw [if_pos c]
    refine ⟨⟨by show 0 ≤ s.f3 + 1; omega, by show s.f3 + 1 ≤ 8; omega⟩, ⟨by show 0 ≤ 2 * s.f4 + v; omega, ?_⟩, h5, h7⟩
    show 2 * s.f4 + v < 2 ^ (s.f3 + 1).toNat
    rw [show (s.f3 + 1).toNat = s.f3.toNat + 1 by omega, Int.pow_succ]
    omega
  · rw [if_neg c]
    refine ⟨⟨Int.le_refl 0, (by decide : (0 : Int) ≤ 8)⟩, ⟨Int.le_refl 0, (by decide : (0 : Int) < 2 ^ (0 : Int).toNat)⟩, auxV_bound _ h5, ?_⟩
    show (if s.f7.size ≤ 4096 then s.f7 ++ (⟨#[UInt8.ofNat s.f4.toNat]⟩ : ByteArray) else s.f7).size ≤ 4097
    split
    · rw [ByteArray.size_append]
      show s.f7.size + 1 ≤ 4097
      omega
    · exact h7
theorem goV_inv {s : StT} (h : Inv s) {a b v : Int} (hv : 0 ≤ v ∧ v ≤ 3) : Inv (goV s a b v).1 := by
  unfold goV
  by_cases c0 : s.f0 = 0
  · rw [if_pos c0]
    exact ⟨hv, fun h => absurd h (by decide : ¬ (1 : Int) = 2)⟩
  · rw [if_neg c0]
    by_cases c1 : chgV s.f6 v = 1
    · rw [if_pos c1]
      exact ⟨hv, fun _ => ⟨⟨Int.le_refl 0, (by decide : (0 : Int) ≤ 8)⟩, ⟨Int.le_refl 0, (by decide : (0 : Int) < 2 ^ (0 : Int).toNat)⟩, ⟨Int.le_refl 0, (by decide : (0 : Int) ≤ 7)⟩, (by decide : (0 : Nat) ≤ 4097)⟩⟩
    · rw [if_neg c1]
      by_cases c2 : chgV s.f6 v = 2
      · rw [if_pos c2]
        exact ⟨hv, fun h => absurd h (by decide : ¬ (1 : Int) = 2)⟩
      · rw [if_neg c2]
        by_cases c3 : chgV s.f6 v = 3 ∧ s.f0 = 2
        · rw [if_pos c3]
          have hs : SegI ⟨s.f0, b, s.f2, s.f3, s.f4, s.f5, v, s.f7⟩ := h.2 c3.2
          obtain ⟨e1, e2, e3⟩ := bitV_prev ⟨s.f0, b, s.f2, s.f3, s.f4, s.f5, v, s.f7⟩ (v / 2)
          exact ⟨by rw [e1]; exact hv, fun _ => bitV_segI hs (by omega)⟩
        · rw [if_neg c3]
          exact ⟨hv, h.2⟩
theorem eight {a : Int} (h : 0 ≤ a ∧ a ≤ 7) : a = 0 ∨ a = 1 ∨ a = 2 ∨ a = 3 ∨ a = 4 ∨ a = 5 ∨ a = 6 ∨ a = 7 := by omega
def tp (s : StT) : TupT := (s.f0, s.f1, s.f2, s.f3, s.f4, s.f5, s.f6, s.f7)
theorem bit_eq (k : Nat) {s : StT} (h : SegI s) {v : Int} (hv : v = 0 ∨ v = 1) : i2c_bit.f (k + 1) s.f0 s.f1 s.f2 s.f3 s.f4 s.f5 s.f6 s.f7 v = some (tp (bitV s v)) := by
  have hp := pow8 h.1 h.2.1.2
  obtain ⟨h3, h4, h5, h7⟩ := h
  unfold i2c_bit.f bitV tp
  rw [w64 (x := s.f3 + 1) (by omega) (by omega)]
  by_cases c : s.f3 < 8
  · rw [if_pos (by omega), if_pos c, w64 (x := 2 * s.f4) (by omega) (by omega), w64 (by omega) (by omega)]
  · have e8 : s.f3 = 8 := by omega
    have e4 : s.f4 % 256 = s.f4 := by omega
    have es : strOfNums [s.f4] = ⟨#[UInt8.ofNat s.f4.toNat]⟩ := rfl
    rw [if_neg (by omega), if_neg c]
    simp only [i2c_bit.j0, Option.bind_some, e4, es]
    have hz : s.f7.size ≤ 4096 → s.f7.size + (⟨#[UInt8.ofNat s.f4.toNat]⟩ : ByteArray).size ≤ 9223372036854775807 := fun hh => by
      show s.f7.size + 1 ≤ _
      omega
    by_cases cs : s.f7.size ≤ 4096
    · have cs' : (s.f7.size : Int) ≤ 4096 := by omega
      have hz' := hz cs
      simp only [cs, cs', hz', if_true, auxV]
      rcases eight h5 with e | e | e | e | e | e | e | e <;> rw [e] <;> rcases hv with rfl | rfl <;> rfl
    · have cs' : ¬ (s.f7.size : Int) ≤ 4096 := by omega
      simp only [cs, cs', if_false, auxV]
      rcases eight h5 with e | e | e | e | e | e | e | e <;> rw [e] <;> rcases hv with rfl | rfl <;> rfl
theorem toList_nil (d : ByteArray) : d.toList = ([] : List UInt8) ↔ d.size = 0 := (toList_eq d).2.1
theorem bt_get (d : ByteArray) (h : 0 < d.size) : bt d 0 = ((d.get! 0).toNat : Int) := by
  unfold bt
  rw [dif_pos (show (0 : Int).toNat < d.size from h)]
  have : (d.get! 0) = d[(0 : Int).toNat]'h := by
    show d.data[0]! = d.data[0]'h
    exact getElem!_pos d.data 0 h
  rw [this]
theorem u8_and1 {a : Int} (h : 0 ≤ a ∧ a ≤ 255) : Go.bits .and .u8 a 1 = a % 2 := by
  rw [u8_and a 1 h.1 (by omega) (by decide) (by decide), show (1 : Int).toNat = 1 from rfl, nat_mask1]
  omega
theorem fault_eq (k : Nat) {s : StT} (h : 0 ≤ s.f5 ∧ s.f5 ≤ 7) : i2c_fault.f (k + 1) s.f0 s.f1 s.f2 s.f3 s.f4 s.f5 s.f6 s.f7 = some (fltV s) := by
  have key : ∀ b : Bool, (b = true ↔ (0 < s.f7.size ∧ (s.f7.get! 0).toNat % 2 = 1)) → i2c_fault.j0 (k + 1) b s.f0 s.f1 s.f2 s.f3 s.f4 s.f5 s.f6 s.f7 = some (fltV s) := by
    intro b hb
    simp only [i2c_fault.j0]
    unfold fltV
    have e1 : ¬ ((s.f7.size : Int) > 1) ↔ ¬ (s.f7.size > 1) := by omega
    by_cases c3 : s.f3 > 1
    · simp only [if_pos c3]
      rcases eight h with e | e | e | e | e | e | e | e <;> rw [e] <;> rfl
    · simp only [if_neg c3]
      by_cases c7 : s.f7.size > 1
      · have c7' : (s.f7.size : Int) > 1 := by omega
        have c0 : 0 < s.f7.size := by omega
        simp only [if_pos c7', c7, c0, true_and] at hb ⊢
        by_cases cb : (s.f7.get! 0).toNat % 2 = 1
        · simp only [hb.mpr cb, cb, if_true, not_true_eq_false, and_false, if_false]
          rcases eight h with e | e | e | e | e | e | e | e <;> rw [e] <;> rfl
        · have : b = false := by cases b with | false => rfl | true => exact absurd (hb.mp rfl) cb
          simp only [this, cb, not_false_eq_true, and_true]
          rcases eight h with e | e | e | e | e | e | e | e <;> rw [e] <;> rfl
      · have c7' : ¬ (s.f7.size : Int) > 1 := by omega
        simp only [if_neg c7', c7, false_and, not_false_eq_true, and_true, ite_self]
        rcases eight h with e | e | e | e | e | e | e | e <;> rw [e] <;> rfl
  unfold i2c_fault.f
  by_cases c : s.f7.size = 0
  · rw [if_pos ((toList_nil _).mpr c)]
    exact key false ⟨fun hh => absurd hh (by decide), fun hh => by omega⟩
  · rw [if_neg (fun hh => c ((toList_nil _).mp hh)), if_pos (by omega)]
    refine key _ ?_
    rw [u8_and1 (bt_range _ _), bt_get _ (by omega)]
    simp only [beq_iff_eq]
    omega
def etup (x : EvT) : Int × Int × Int × Int × Int × ByteArray × Int := (x.f0, x.f1, x.f2, x.f3, x.f4, x.f5, x.f6)
theorem frame_eq (k : Nat) {s : StT} (h : 0 ≤ s.f5 ∧ s.f5 ≤ 7) (en stop : Int) : i2c_frame.f (k + 1) s.f0 s.f1 s.f2 s.f3 s.f4 s.f5 s.f6 s.f7 en stop = some (etup (frmV s en stop)) := by
  unfold i2c_frame.f frmV etup
  rw [fault_eq k h, Option.bind_some]
  by_cases c : s.f7.size = 0
  · have e : s.f7 = ⟨#[]⟩ := by
      apply ByteArray.ext
      exact Array.toList_inj.mp (List.length_eq_zero_iff.mp c)
    rw [if_pos ((toList_nil _).mpr c), if_pos c, e]
    rfl
  · have hb := (s.f7.get! 0).toNat_lt
    rw [if_neg (fun hh => c ((toList_nil _).mp hh)), if_pos (by omega), if_pos (by omega), if_neg c, bt_get _ (by omega), w64 (by omega) (by omega)]
theorem step_ev {c : Int} {s : StT} (hs : Inv s) (x : EvT) : ∀ k, i2c_Step.f (k + 5) c s.f0 s.f1 s.f2 s.f3 s.f4 s.f5 s.f6 s.f7 x.f0 x.f1 x.f2 x.f3 x.f4 x.f5 x.f6 = some (pk (stepV c s x).1 (stepV c s x).2) := by
  intro k
  unfold i2c_Step.f
  rw [(check_eq c).1, Option.bind_some]
  by_cases hc : okC c
  · rw [check_ok hc, if_pos rfl, accepted_eq, Option.bind_some]
    unfold stepV
    by_cases ha : accP s x
    · rw [if_pos ⟨hc, ha⟩]
      have hd : (!decide (accP s x)) = false := by simp [ha]
      rw [hd]
      simp only [i2c_Step.j0, if_neg Bool.false_ne_true]
      obtain ⟨hv, h1, h6, h12, h3, h0⟩ := ha
      unfold goV pk
      by_cases c0 : s.f0 = 0
      · simp only [if_pos c0]
      · simp only [if_neg c0]
        rw [change_eq (k + 2) hs.1 h3, Option.bind_some]
        have hfr : ∀ stop, s.f0 = 2 → i2c_frame.f (k + 3) s.f0 x.f2 s.f2 s.f3 s.f4 s.f5 x.f3 s.f7 x.f1 stop = some (etup (frmV s x.f1 stop)) := fun stop h2 => frame_eq (k + 2) (s := ⟨s.f0, x.f2, s.f2, s.f3, s.f4, s.f5, x.f3, s.f7⟩) (hs.2 h2).2.2.1 x.f1 stop
        by_cases c1 : chgV s.f6 x.f3 = 1
        · simp only [if_pos c1, i2c_Step.j1]
          by_cases c2 : s.f0 = 2
          · simp only [if_pos c2]
            rw [hfr 0 c2, Option.bind_some]
            rfl
          · simp only [if_neg c2]
        · simp only [if_neg c1]
          by_cases c1' : chgV s.f6 x.f3 = 2
          · simp only [if_pos c1', i2c_Step.j1]
            by_cases c2 : s.f0 = 2
            · simp only [if_pos c2]
              rw [hfr 1 c2, Option.bind_some]
              rfl
            · simp only [if_neg c2]
          · simp only [if_neg c1']
            by_cases c3 : chgV s.f6 x.f3 = 3
            · by_cases c2 : s.f0 = 2
              · simp only [if_pos c3, if_pos c2, if_pos (And.intro c3 c2)]
                have eb : Go.bits .and .i64 (x.f3 / 2) 1 = x.f3 / 2 := by
                  rcases four h3 with e | e | e | e <;> rw [e] <;> rfl
                have hb := bit_eq (k + 3) (s := ⟨s.f0, x.f2, s.f2, s.f3, s.f4, s.f5, x.f3, s.f7⟩) (hs.2 c2) (v := x.f3 / 2) (by omega)
                rw [eb]
                rw [hb, Option.bind_some]
                rfl
              · simp only [if_pos c3, if_neg c2, if_neg (fun h : chgV s.f6 x.f3 = 3 ∧ s.f0 = 2 => c2 h.2)]
            · simp only [if_neg c3, if_neg (fun h : chgV s.f6 x.f3 = 3 ∧ s.f0 = 2 => c3 h.1)]
    · rw [if_neg (fun h => ha h.2)]
      have hd : (!decide (accP s x)) = true := by simp [ha]
      rw [hd]
      rfl
  · rw [check_no hc, if_neg (by decide)]
    unfold stepV
    rw [if_neg (fun h => hc h.1)]
    rfl
theorem ev_step {α : Type} {g f : Nat → Option α} {r : α} (n : Nat) (h : ∀ k, n ≤ k → g (k + 1) = f k) (hf : Ev f r) : Ev g r := by
  obtain ⟨K, hK⟩ := hf
  refine ⟨max K n + 1, fun k hk => ?_⟩
  have e : k = (k - 1) + 1 := by omega
  rw [e, h _ (by omega)]
  exact hK _ (by omega)
theorem ev_same {α : Type} {g f : Nat → Option α} {r : α} (n : Nat) (h : ∀ k, n ≤ k → g k = f k) (hf : Ev f r) : Ev g r := by
  obtain ⟨K, hK⟩ := hf
  exact ⟨max K n, fun k hk => by rw [h _ (by omega)]; exact hK _ (by omega)⟩
theorem step_at {c : Int} {s : StT} (hs : Inv s) (x : EvT) {k : Nat} (hk : 5 ≤ k) : i2c_Step.f k c s.f0 s.f1 s.f2 s.f3 s.f4 s.f5 s.f6 s.f7 x.f0 x.f1 x.f2 x.f3 x.f4 x.f5 x.f6 = some (pk (stepV c s x).1 (stepV c s x).2) := by
  have h := step_ev (c := c) hs x (k - 5)
  rwa [show k - 5 + 5 = k by omega] at h
theorem rdE_mid (pre post : List EvT) (x : EvT) : rd_T27 (pre ++ x :: post) (pre.length : Int) = x := by simp [rd_T27, List.getD]
theorem rdR_mid (pre post : List RunT) (x : RunT) : rd_T53 (pre ++ x :: post) (pre.length : Int) = x := by simp [rd_T53, List.getD]
theorem midl_lt {α : Type} (pre post : List α) (x : α) : (pre.length : Int) < ((pre ++ x :: post).length : Int) := by
  simp only [List.length_append, List.length_cons]
  omega
def runV (c : Int) : StT → List EvT → StT × List EvT
  | s, [] => (s, [])
  | s, x :: l => ((runV c (stepV c s x).1 l).1, (stepV c s x).2 ++ (runV c (stepV c s x).1 l).2)
def endV (c : Int) (s : StT) : List EvT := if okC c ∧ s.f0 = 2 then [⟨5, s.f2, s.f1, 0, 0, ⟨#[]⟩, 7⟩] else []
def z0 : StT := ⟨0, 0, 0, 0, 0, 0, 0, ⟨#[]⟩⟩
def decV (c : Int) (l : List EvT) : List EvT := (runV c z0 l).2 ++ endV c (runV c z0 l).1
theorem runV_append (c : Int) : ∀ (p q : List EvT) (s : StT), runV c s (p ++ q) = ((runV c (runV c s p).1 q).1, (runV c s p).2 ++ (runV c (runV c s p).1 q).2)
  | [], q, s => by simp [runV]
  | x :: p, q, s => by
    simp only [List.cons_append, runV]
    rw [runV_append c p q, List.append_assoc]
theorem goV_len (s : StT) (a b v : Int) : (goV s a b v).2.length ≤ 1 := by
  unfold goV
  repeat' split
  all_goals simp
theorem stepV_len (c : Int) (s : StT) (x : EvT) : (stepV c s x).2.length ≤ 1 := by
  unfold stepV
  split
  · exact goV_len ..
  · exact Nat.zero_le _
theorem stepV_inv {c : Int} {s : StT} (h : Inv s) (x : EvT) : Inv (stepV c s x).1 := by
  unfold stepV
  split
  · rename_i ha
    exact goV_inv h ha.2.2.2.2.2.1
  · exact h
theorem runV_len {c : Int} : ∀ (l : List EvT) (s : StT), (runV c s l).2.length ≤ l.length
  | [], s => Nat.le_refl _
  | x :: l, s => by
    have h1 := stepV_len c s x
    have h2 := runV_len (c := c) l (stepV c s x).1
    simp only [runV, List.length_append, List.length_cons]
    omega
theorem endV_len (c : Int) (s : StT) : (endV c s).length ≤ 1 := by
  unfold endV
  split
  · exact Nat.le_refl _
  · exact Nat.zero_le _
theorem decV_len (c : Int) (l : List EvT) : (decV c l).length ≤ l.length + 1 := by
  have h1 := runV_len (c := c) l z0
  have h2 := endV_len c (runV c z0 l).1
  unfold decV
  rw [List.length_append]
  omega
theorem inv_z0 : Inv z0 := ⟨⟨Int.le_refl 0, (by decide : (0 : Int) ≤ 3)⟩, fun h => absurd h (by decide : ¬ (0 : Int) = 2)⟩
theorem end_eq (c : Int) (s : StT) : i2c_End.f c s.f0 s.f1 s.f2 s.f3 s.f4 s.f5 s.f6 s.f7 = some (endV c s) := by
  unfold i2c_End.f endV
  rw [(check_eq c).1, Option.bind_some]
  by_cases h : okC c
  · rw [check_ok h, if_pos rfl]
    by_cases h2 : s.f0 = 2
    · rw [if_pos h2, if_pos ⟨h, h2⟩]
    · rw [if_neg h2, if_neg (fun hh => h2 hh.2)]
  · rw [check_no h, if_neg (by decide), if_neg (fun hh => h hh.1)]
theorem dec_l0 {c : Int} : ∀ (post pre out : List EvT) (s : StT), Inv s → out.length + post.length + 1 < 2199023255552 → (pre ++ post).length ≤ 1099511627776 →
    Ev (fun k => i2c_Decode.l0 k out (pre ++ post) ((pre ++ post).length : Int) (pre.length : Int) c s.f0 s.f1 s.f2 s.f3 s.f4 s.f5 s.f6 s.f7) (out ++ ((runV c s post).2 ++ endV c (runV c s post).1))
  | [], pre, out, s, hs, ho, hl => by
    have hz := endV_len c s
    refine Ev.step (f := fun _ => some (out ++ endV c s)) (fun k => ?_) (Ev.now _)
    simp only [i2c_Decode.l0]
    rw [if_neg (by simp), end_eq, Option.bind_some, if_pos (by simp only [List.length_nil] at ho; omega)]
  | x :: post, pre, out, s, hs, ho, hl => by
    have hlt := midl_lt pre post x
    have hn : pre.length ≤ 9223372036854775806 := by
      simp only [List.length_append, List.length_cons] at hl
      omega
    have h1 := stepV_len c s x
    simp only [List.length_cons] at ho
    have ih := dec_l0 (c := c) post (pre ++ [x]) (out ++ (stepV c s x).2) (stepV c s x).1 (stepV_inv hs x) (by rw [List.length_append]; omega) (by simpa using hl)
    rw [← mid_snoc] at ih
    have er : out ++ (stepV c s x).2 ++ ((runV c (stepV c s x).1 post).2 ++ endV c (runV c (stepV c s x).1 post).1) = out ++ ((runV c s (x :: post)).2 ++ endV c (runV c s (x :: post)).1) := by
      simp only [runV, List.append_assoc]
    rw [er] at ih
    refine ev_step 5 (fun k hk => ?_) ih
    simp only [i2c_Decode.l0]
    rw [if_pos hlt, if_pos (by omega), if_pos hlt, rdE_mid, step_at hs x hk, Option.bind_some]
    refine (if_pos (show out.length + (stepV c s x).2.length < 2199023255552 by omega)).trans ?_
    rw [succ_mid _ _ hn]
    rfl
theorem dec_ev (c : Int) {l : List EvT} (hl : l.length ≤ 1099511627776) : Ev (fun k => i2c_Decode.f k c l) (decV c l) := by
  have h := dec_l0 (c := c) l [] [] z0 inv_z0 (by simp only [List.length_nil]; omega) (by simpa using hl)
  exact Ev.congr (fun k => rfl) h
theorem awake23_ev : Ev (fun k => signalbenchlaw23_awake.f k) true := Ev.of (k := 100) (fun k => signalbenchlaw23_awake.mono k) (by decide +kernel)
theorem awake23_then : Ev (fun k => (signalbenchlaw23_awake.f k).bind fun t => some t) true := Ev.bind awake23_ev (Ev.now true)
def levV : Int → List RunT → List EvT
  | _, [] => []
  | t, r :: l => ⟨1, t, t + r.f1, r.f0, 0, ⟨#[]⟩, 0⟩ :: levV (t + r.f1) l
theorem levV_len : ∀ (l : List RunT) (t : Int), (levV t l).length = l.length
  | [], t => rfl
  | r :: l, t => by simp only [levV, List.length_cons, levV_len l]
/-- The walk over runs is the run over their events. -/
theorem run_lev {c : Int} (hc : okC c) : ∀ (l : List RunT) (s : StT) (t : Int), (s.f0 = 0 ∨ t = s.f1) → 0 ≤ t → (∀ r ∈ l, 1 ≤ r.f1 ∧ 0 ≤ r.f0 ∧ r.f0 ≤ 3) → t + sumT l ≤ 1099511627776 → runV c s (levV t l) = walk s t l
  | [], s, t, h, h0, hr, hs => rfl
  | r :: l, s, t, h, h0, hr, hs => by
    have h1 := hr r (.head _)
    have h2 : ∀ x ∈ l, 1 ≤ x.f1 ∧ 0 ≤ x.f0 ∧ x.f0 ≤ 3 := fun x hx => hr x (.tail _ hx)
    have h3 := sum_nonneg (fun x hx => (h2 x hx).1)
    simp only [sumT] at hs
    have ha : accP s ⟨1, t, t + r.f1, r.f0, 0, ⟨#[]⟩, 0⟩ := by
      refine ⟨⟨?_, ?_, ?_, ?_, ?_, ?_⟩, rfl, rfl, ?_, ?_, h⟩
      · exact ⟨(by decide : (1 : Int) ≤ 1), (by decide : (1 : Int) ≤ 8)⟩
      · exact ⟨h0, by show t ≤ t + r.f1; omega, by show t + r.f1 ≤ _; omega⟩
      · exact ⟨by show _ ≤ r.f0; omega, by show r.f0 ≤ _; omega⟩
      · exact ⟨(by decide : (-9007199254740992 : Int) ≤ 0), (by decide : (0 : Int) ≤ 9007199254740992)⟩
      · exact (by decide : (0 : Nat) ≤ 4096)
      · exact ⟨Int.le_refl 0, (by decide : (0 : Int) ≤ 12)⟩
      · show t < t + r.f1; omega
      · exact ⟨h1.2.1, h1.2.2⟩
    have es : stepV c s ⟨1, t, t + r.f1, r.f0, 0, ⟨#[]⟩, 0⟩ = goV s t (t + r.f1) r.f0 := by
      unfold stepV
      rw [if_pos ⟨hc, ha⟩]
    obtain ⟨g1, g2, g3⟩ := goV_end s t (t + r.f1) r.f0
    simp only [levV, runV, walk]
    rw [es, run_lev hc l _ _ (.inr g3.symm) (by omega) h2 (by omega)]
theorem expect_l0 {c : Int} : ∀ (post pre : List RunT) (out : List EvT) (t : Int), 0 ≤ t → (∀ r ∈ post, 1 ≤ r.f1) → t + sumT post ≤ 1099511627776 → (pre ++ post).length ≤ 262144 → out.length + post.length ≤ 262144 →
    Ev (fun k => i2c_Expect.l0 k out t (pre ++ post) ((pre ++ post).length : Int) (pre.length : Int) c) (decV c (out ++ levV t post), 0)
  | [], pre, out, t, h0, hr, hs, hl, ho => by
    have hd := dec_ev c (l := out) (by simp only [List.length_nil] at ho; omega)
    have hd2 : Ev (fun k => (i2c_Decode.f k c out).bind fun t201 => (some (t201, (0 : Int)))) (decV c (out ++ levV t []), 0) := by
      rw [show out ++ levV t [] = out from List.append_nil out]
      exact Ev.bind hd (Ev.now _)
    refine Ev.step (fun k => ?_) hd2
    simp only [i2c_Expect.l0]
    rw [if_neg (by simp)]
  | r :: post, pre, out, t, h0, hr, hs, hl, ho => by
    have hlt := midl_lt pre post r
    have hn : pre.length ≤ 9223372036854775806 := by
      simp only [List.length_append, List.length_cons] at hl
      omega
    have h1 := hr r (.head _)
    have h2 : ∀ x ∈ post, 1 ≤ x.f1 := fun x hx => hr x (.tail _ hx)
    have h3 := sum_nonneg h2
    simp only [sumT] at hs
    simp only [List.length_cons] at ho
    have ih := expect_l0 (c := c) post (pre ++ [r]) (out ++ [⟨1, t, t + r.f1, r.f0, 0, ⟨#[]⟩, 0⟩]) (t + r.f1) (by omega) h2 (by omega) (by simpa using hl) (by simp only [List.length_append, List.length_cons, List.length_nil]; omega)
    rw [← mid_snoc] at ih
    have er : out ++ [(⟨1, t, t + r.f1, r.f0, 0, ⟨#[]⟩, 0⟩ : EvT)] ++ levV (t + r.f1) post = out ++ levV t (r :: post) := by simp [levV]
    rw [er] at ih
    refine Ev.step (fun k => ?_) ih
    simp only [i2c_Expect.l0]
    rw [if_pos hlt, if_pos (by omega), if_pos hlt, rdR_mid, if_pos (by omega), succ_mid _ _ hn, w64 (x := t + r.f1) (by omega) (by omega)]
theorem last_at (o : List RunT) (x : RunT) (h : o.length ≤ 9223372036854775806) : wrap64 (((o ++ [x]).length : Int) - 1) = (o.length : Int) := by
  rw [w64 (by simp only [List.length_append, List.length_cons, List.length_nil]; omega) (by simp only [List.length_append, List.length_cons, List.length_nil]; omega)]
  simp
theorem rd_last (o : List RunT) (x : RunT) : rd_T53 (o ++ [x]) (o.length : Int) = x := rdR_mid o [] x
theorem set_last (o : List RunT) (x y : RunT) : (o ++ [x]).set ((o.length : Int)).toNat y = o ++ [y] := by
  rw [Int.toNat_natCast]
  simp
def OkR (k : Nat) (o : List RunT) : Prop := o.length ≤ k ∧ sumT o ≤ 4194304 * (k : Int) ∧ ∀ y ∈ o, 1 ≤ y.f1 ∧ 0 ≤ y.f0 ∧ y.f0 ≤ 3
def RawOk (l : List RunT) : Prop := ∀ r ∈ l, r.f1 ≤ 4194304 ∧ 0 ≤ r.f0 ∧ r.f0 ≤ 3
def puts (o raw : List RunT) : List RunT := raw.foldl putP o
theorem puts_append (o p q : List RunT) : puts o (p ++ q) = puts (puts o p) q := List.foldl_append ..
theorem le_sumT : ∀ {o : List RunT}, (∀ y ∈ o, 1 ≤ y.f1 ∧ 0 ≤ y.f0 ∧ y.f0 ≤ 3) → ∀ y ∈ o, y.f1 ≤ sumT o
  | [], h, y, hy => absurd hy (by simp)
  | x :: o, h, y, hy => by
    have h2 : ∀ z ∈ o, 1 ≤ z.f1 ∧ 0 ≤ z.f0 ∧ z.f0 ≤ 3 := fun z hz => h z (.tail _ hz)
    have h3 := sum_nonneg (fun z hz => (h2 z hz).1)
    have h4 := h x (.head _)
    simp only [sumT]
    rcases List.mem_cons.mp hy with rfl | hy
    · omega
    · have := le_sumT h2 y hy
      omega
theorem putP_ok {k : Nat} {o : List RunT} (h : OkR k o) {r : RunT} (hr : r.f1 ≤ 4194304 ∧ 0 ≤ r.f0 ∧ r.f0 ≤ 3) : OkR (k + 1) (putP o r) := by
  obtain ⟨h1, h2, h3⟩ := h
  unfold putP
  by_cases c : r.f1 < 1
  · rw [if_pos c]
    exact ⟨by omega, by push_cast; omega, h3⟩
  · rw [if_neg c]
    refine ⟨?_, by rw [sumT_putR]; push_cast; omega, ?_⟩
    · rcases snoc_cases o with rfl | ⟨q, y, rfl⟩
      · simp [putR_nil]
      · by_cases e : y.f0 = r.f0
        · rw [← e, putR_same]
          simp only [List.length_append, List.length_cons, List.length_nil] at h1 ⊢
          omega
        · rw [putR_new q y e]
          simp only [List.length_append, List.length_cons, List.length_nil] at h1 ⊢
          omega
    · rcases snoc_cases o with rfl | ⟨q, y, rfl⟩
      · intro z hz
        rw [putR_nil, List.mem_singleton] at hz
        rw [hz]
        exact ⟨by show 1 ≤ r.f1; omega, hr.2⟩
      · by_cases e : y.f0 = r.f0
        · rw [← e, putR_same]
          intro z hz
          rcases List.mem_append.mp hz with hz | hz
          · exact h3 z (List.mem_append_left _ hz)
          · rw [List.mem_singleton.mp hz]
            have := h3 y (by simp)
            exact ⟨by show 1 ≤ y.f1 + r.f1; omega, this.2⟩
        · rw [putR_new q y e]
          intro z hz
          rcases List.mem_append.mp hz with hz | hz
          · exact h3 z hz
          · rw [List.mem_singleton.mp hz]
            exact ⟨by show 1 ≤ r.f1; omega, hr.2⟩
theorem puts_ok : ∀ (raw : List RunT) {k : Nat} {o : List RunT}, OkR k o → RawOk raw → OkR (k + raw.length) (puts o raw)
  | [], k, o, h, hr => h
  | r :: raw, k, o, h, hr => by
    have := puts_ok raw (putP_ok h (hr r (.head _))) (fun x hx => hr x (.tail _ hx))
    rw [show k + (r :: raw).length = k + 1 + raw.length by simp only [List.length_cons]; omega]
    exact this
theorem put_eq {k : Nat} {o : List RunT} (h : OkR k o) (hk : k ≤ 1000000000) {v n : Int} (hn : n ≤ 4194304) : line_put.f o v n = some (putP o ⟨v, n⟩) := by
  obtain ⟨h1, h2, h3⟩ := h
  unfold line_put.f putP
  by_cases c0 : n < 1
  · rw [if_pos c0, if_pos c0]
  · rw [if_neg c0, if_neg c0]
    rcases snoc_cases o with rfl | ⟨q, y, rfl⟩
    · rw [if_neg (by simp), if_pos (by simp)]
      rfl
    · have hy := le_sumT h3 y (by simp)
      have hy1 := h3 y (by simp)
      have hq : q.length ≤ 9223372036854775806 := by
        simp only [List.length_append, List.length_cons, List.length_nil] at h1
        omega
      have hlt : (q.length : Int) < ((q ++ [y]).length : Int) := midl_lt q [] y
      rw [last_at q y hq, rd_last, if_pos (by omega), if_pos (by omega), if_pos hlt]
      by_cases c : y.f0 = v
      · rw [if_pos c, set_last, w64 (by omega) (by omega), ← c, putR_same]
      · rw [if_neg c, if_pos (by omega), putR_new q y c]
theorem r_ok {v n : Int} (hn : n ≤ 4194304) (hv : 0 ≤ v ∧ v ≤ 3) : (⟨v, n⟩ : RunT).f1 ≤ 4194304 ∧ 0 ≤ (⟨v, n⟩ : RunT).f0 ∧ (⟨v, n⟩ : RunT).f0 ≤ 3 := ⟨hn, hv⟩
def tOk (T : Int) : Prop := 1 ≤ T ∧ T ≤ 1048576
theorem rawBit_ok {T v : Int} (hT : tOk T) (hv : v = 0 ∨ v = 1) : RawOk (rawBit T v) := by
  intro r hr
  unfold tOk at hT
  simp only [rawBit, List.mem_cons, List.not_mem_nil, or_false] at hr
  rcases hr with rfl | rfl | rfl
  · exact ⟨by show T ≤ _; omega, by show 0 ≤ 2 * v; omega, by show 2 * v ≤ 3; omega⟩
  · exact ⟨by show 2 * T ≤ _; omega, by show 0 ≤ 2 * v + 1; omega, by show 2 * v + 1 ≤ 3; omega⟩
  · exact ⟨by show T ≤ _; omega, by show 0 ≤ 2 * v; omega, by show 2 * v ≤ 3; omega⟩
theorem three_puts {k : Nat} {o : List RunT} {a b c : RunT} (h : OkR k o) (hr : RawOk [a, b, c]) : puts o [a, b, c] = putP (putP (putP o a) b) c ∧ OkR (k + 1) (putP o a) ∧ OkR (k + 2) (putP (putP o a) b) ∧ OkR (k + 3) (puts o [a, b, c]) :=
  ⟨rfl, putP_ok h (hr a (by simp)), putP_ok (putP_ok h (hr a (by simp))) (hr b (by simp)), puts_ok [a, b, c] h hr⟩
theorem bit_put {k : Nat} {o : List RunT} (h : OkR k o) (hk : k ≤ 900000000) {T v : Int} (hT : tOk T) (hv : v = 0 ∨ v = 1) : line_bit.f T o v = some (puts o (rawBit T v)) := by
  obtain ⟨e, h1, h2, h3⟩ := three_puts h (rawBit_ok hT hv)
  unfold tOk at hT
  unfold line_bit.f
  rw [w64 (x := v * 2) (by omega) (by omega), w64 (x := v * 2 + 1) (by omega) (by omega), w64 (x := 2 * T) (by omega) (by omega), Int.mul_comm v 2]
  rw [put_eq h (by omega) (by omega), Option.bind_some, put_eq h1 (by omega) (by omega), Option.bind_some, put_eq h2 (by omega) (by omega)]
  rfl
def bitsN (b : Int) : Nat → List Int
  | 0 => []
  | n + 1 => b / 2 ^ n % 2 :: bitsN b n
theorem bitsN_8 (b : Int) : bitsN b 8 = bits8 b := by
  simp [bitsN, bits8]
theorem rawBits_len (T : Int) : ∀ l : List Int, (rawBits T l).length = 3 * l.length
  | [] => rfl
  | v :: l => by
    simp only [rawBits, List.length_append, rawBits_len T l, List.length_cons]
    show 3 + _ = _
    omega
theorem rawBits_ok {T : Int} (hT : tOk T) : ∀ l : List Int, (∀ v ∈ l, v = 0 ∨ v = 1) → RawOk (rawBits T l)
  | [], h => fun r hr => absurd hr (by simp [rawBits])
  | v :: l, h => fun r hr => by
    rcases List.mem_append.mp hr with hr | hr
    · exact rawBit_ok hT (h v (.head _)) r hr
    · exact rawBits_ok hT l (fun x hx => h x (.tail _ hx)) r hr
theorem pow_pos' (n : Nat) : (0 : Int) < 2 ^ n := Int.pow_pos (by decide)
theorem div_range {b : Int} (hb : 0 ≤ b ∧ b ≤ 255) (n : Nat) : 0 ≤ b / 2 ^ n ∧ b / 2 ^ n ≤ 255 := by
  refine ⟨Int.ediv_nonneg hb.1 (Int.le_of_lt (pow_pos' n)), ?_⟩
  exact Int.le_trans (Int.ediv_le_self _ hb.1) hb.2
theorem bytes_g {T b ack : Int} (hT : tOk T) (hb : 0 ≤ b ∧ b ≤ 255) (ha : ack = 0 ∨ ack = 1) : ∀ (n k : Nat) (o : List RunT), OkR k o → k + 3 * n ≤ 800000000 → line_bytes.g T b ack n o = some (puts o (rawBits T (bitsN b n ++ [ack])))
  | 0, k, o, h, hk => by
    show line_bit.f T o ack = _
    rw [bit_put h (by omega) hT ha]
    simp [bitsN, rawBits]
  | n + 1, k, o, h, hk => by
    have hr := div_range hb n
    have hv : b / 2 ^ n % 2 = 0 ∨ b / 2 ^ n % 2 = 1 := by omega
    have h3 := puts_ok (rawBit T (b / 2 ^ n % 2)) h (rawBit_ok hT hv)
    show (line_bit.f T o (wrap64 (Go.bits .and .u8 (b / 2 ^ n) 1))).bind _ = _
    rw [u8_and1 hr, w64 (by omega) (by omega), bit_put h (by omega) hT hv, Option.bind_some]
    rw [bytes_g hT hb ha n _ _ h3 (by show k + 3 + 3 * n ≤ _; omega), ← puts_append]
    rfl
theorem bytes_put {k : Nat} {o : List RunT} (h : OkR k o) (hk : k ≤ 700000000) {T b ack : Int} (hT : tOk T) (hb : 0 ≤ b ∧ b ≤ 255) (ha : ack = 0 ∨ ack = 1) : line_bytes.f T o b ack = some (puts o (rawByte T b ack)) := by
  unfold line_bytes.f rawByte
  rw [bytes_g hT hb ha 8 k o h (by omega), bitsN_8]
theorem rawByte_ok {T b ack : Int} (hT : tOk T) (ha : ack = 0 ∨ ack = 1) : RawOk (rawByte T b ack) := by
  refine rawBits_ok hT _ (fun v hv => ?_)
  simp only [bits8, List.cons_append, List.nil_append, List.mem_cons, List.not_mem_nil, or_false] at hv
  rcases hv with rfl | rfl | rfl | rfl | rfl | rfl | rfl | rfl | rfl
  all_goals first | exact ha | omega
theorem rawByte_len (T b ack : Int) : (rawByte T b ack).length = 27 := by
  unfold rawByte
  rw [rawBits_len]
  rfl
theorem i64_and1 {a : Int} (h : 0 ≤ a ∧ a ≤ 255) : Go.bits .and .i64 a 1 = a % 2 := by
  have e1 : Go.bits .and .i64 a 1 = IntKind.i64.wrap (((BitVec.ofInt 64 a &&& BitVec.ofInt 64 1).toNat : Nat) : Int) := rfl
  have e3 : (BitVec.ofInt 64 a).toNat = a.toNat := by
    rw [BitVec.toNat_ofInt]
    omega
  rw [e1, BitVec.toNat_and, e3, show (BitVec.ofInt 64 1).toNat = 1 from rfl, nat_mask1, IntKind.wrap_i64]
  omega
theorem bt_byte (d : ByteArray) {i : Nat} (h : i < d.size) : bt d (i : Int) = ((d.toList[i]'(by rw [(toList_eq d).2.2]; exact h)).toNat : Int) := by
  unfold bt
  rw [dif_pos (by rw [Int.toNat_natCast]; exact h)]
  have e : d.toList = d.data.toList := by simp [ByteArray.toList_eq]
  simp only [Int.toNat_natCast, e]
  rfl
theorem drop_byte (d : ByteArray) {i : Nat} (h : i < d.size) : d.toList.drop i = d.toList[i]'(by rw [(toList_eq d).2.2]; exact h) :: d.toList.drop (i + 1) := List.drop_eq_getElem_cons _
theorem rawData_ok {T value : Int} (hT : tOk T) : ∀ l : List UInt8, RawOk (rawData T value l)
  | [] => fun r hr => absurd hr (by simp [rawData])
  | b :: l => fun r hr => by
    rcases List.mem_append.mp hr with hr | hr
    · exact rawByte_ok hT (by split <;> simp) r hr
    · exact rawData_ok hT l r hr
theorem rawData_len (T value : Int) : ∀ l : List UInt8, (rawData T value l).length = 27 * l.length
  | [] => rfl
  | b :: l => by
    simp only [rawData, List.length_append, rawByte_len, rawData_len T value l, List.length_cons]
    omega
theorem item_g {T value : Int} (hT : tOk T) (hv : 0 ≤ value ∧ value ≤ 255) (d : ByteArray) : ∀ (n i k : Nat) (o : List RunT), OkR k o → i + n = d.size → k + 27 * n ≤ 600000000 → line_item.g T value d n i o = some (puts o (rawData T value (d.toList.drop i)))
  | 0, i, k, o, h, hi, hk => by
    rw [List.drop_of_length_le (by rw [(toList_eq d).2.2]; omega)]
    rfl
  | n + 1, i, k, o, h, hi, hk => by
    have hlt : i < d.size := by omega
    have hb := bt_range d (i : Int)
    have hz : (d.toList.drop (i + 1) = []) ↔ n = 0 := by
      rw [List.drop_eq_nil_iff, (toList_eq d).2.2]
      omega
    have ea : (if n = 0 ∧ Go.bits .and .i64 value 1 = 1 then (1 : Int) else 0) = (if d.toList.drop (i + 1) = [] ∧ value % 2 = 1 then 1 else 0) := by
      rw [i64_and1 hv]
      simp only [hz]
    have h3 := puts_ok (rawByte T (bt d (i : Int)) (if d.toList.drop (i + 1) = [] ∧ value % 2 = 1 then 1 else 0)) h (rawByte_ok hT (by split <;> simp))
    rw [rawByte_len] at h3
    show (line_bytes.f T o (bt d (i : Int)) (if n = 0 ∧ Go.bits .and .i64 value 1 = 1 then 1 else 0)).bind _ = _
    rw [ea, bytes_put h (by omega) hT hb (by split <;> simp), Option.bind_some]
    rw [item_g hT hv d n (i + 1) _ _ h3 (by omega) (by omega), ← puts_append, drop_byte d hlt, bt_byte d hlt]
    rfl
theorem one_ok {v n : Int} (hn : n ≤ 4194304) (hv : 0 ≤ v ∧ v ≤ 3) : RawOk [⟨v, n⟩] := fun r hr => by rw [List.mem_singleton.mp hr]; exact ⟨hn, hv⟩
theorem rawok_app {p q : List RunT} (hp : RawOk p) (hq : RawOk q) : RawOk (p ++ q) := fun r hr => by
  rcases List.mem_append.mp hr with h | h
  · exact hp r h
  · exact hq r h
theorem front_ok {T : Int} (hT : tOk T) {x : ItT} (hg : x.f0 ≤ 1048576) (b : Bool) : RawOk (frontR T x b) := by
  unfold tOk at hT
  unfold frontR
  split
  · exact one_ok (by omega) (by decide)
  · exact rawok_app (one_ok (by omega) (by decide)) (rawok_app (p := [⟨2, T⟩]) (one_ok (by omega) (by decide)) (one_ok (by omega) (by decide)))
theorem stop_ok {T : Int} (hT : tOk T) (x : ItT) : RawOk (stopR T x) := by
  unfold tOk at hT
  unfold stopR
  split
  · exact rawok_app (p := [⟨0, T⟩]) (one_ok (by omega) (by decide)) (rawok_app (p := [⟨1, T⟩]) (one_ok (by omega) (by decide)) (one_ok (by omega) (by decide)))
  · exact fun r hr => absurd hr (by simp)
theorem body_ok {T : Int} (hT : tOk T) (x : ItT) : RawOk (bodyR T x) := rawok_app (rawByte_ok hT (by split <;> simp)) (rawData_ok hT _)
theorem two_ok {T : Int} (hT : tOk T) : RawOk [⟨1, T⟩, ⟨0, T⟩] := by
  unfold tOk at hT
  exact rawok_app (p := [⟨1, T⟩]) (one_ok (by omega) (by decide)) (one_ok (by omega) (by decide))
theorem item_ok {T : Int} (hT : tOk T) {x : ItT} (hg : x.f0 ≤ 1048576) (b : Bool) : RawOk (rawItem T x b) := rawok_app (front_ok hT hg b) (rawok_app (rawok_app (two_ok hT) (body_ok hT x)) (stop_ok hT x))
theorem front_len (T : Int) (x : ItT) (b : Bool) : (frontR T x b).length ≤ 3 := by
  unfold frontR
  split <;> simp
theorem stop_len (T : Int) (x : ItT) : (stopR T x).length ≤ 3 := by
  unfold stopR
  split <;> simp
theorem body_len (T : Int) (x : ItT) : (bodyR T x).length = 27 + 27 * x.f3.size := by
  unfold bodyR
  rw [List.length_append, rawByte_len, rawData_len, (toList_eq x.f3).2.2]
theorem item_len (T : Int) {x : ItT} (hd : x.f3.size ≤ 4096) (b : Bool) : (rawItem T x b).length ≤ 110627 := by
  have h1 := front_len T x b
  have h2 := stop_len T x
  have h3 := body_len T x
  unfold rawItem
  simp only [List.length_append, List.length_cons, List.length_nil]
  omega
def ItemOk (x : ItT) : Prop := ItOk x ∧ x.f0 ≤ 1048576
theorem item_put {k : Nat} {o : List RunT} (h : OkR k o) (hk : k ≤ 400000000) {T : Int} (hT : tOk T) {x : ItT} (hx : ItemOk x) (b : Bool) : line_item.f T o x.f0 x.f1 x.f2 x.f3 x.f4 b = some (puts o (rawItem T x b)) := by
  have hfo := front_ok hT hx.2 b
  have hfl := front_len T x b
  obtain ⟨⟨g0, g1, g3, g4, g5, g6⟩, hg⟩ := hx
  have hT' := hT
  unfold tOk at hT'
  unfold line_item.f
  rw [if_pos (by omega)]
  have e1 : line_item.a T o x.f0 b = some (puts o (frontR T x b)) := by
    unfold line_item.a frontR
    by_cases c : b = true
    · rw [if_pos c, if_pos c, put_eq h (by omega) (by omega)]
      rfl
    · rw [if_neg c, if_neg c]
      have h1 := putP_ok h (r := ⟨0, x.f0⟩) (r_ok (by omega) (by decide))
      have h2 := putP_ok h1 (r := ⟨2, T⟩) (r_ok (by omega) (by decide))
      rw [put_eq h (by omega) (by omega), Option.bind_some, put_eq h1 (by omega) (by omega), Option.bind_some, put_eq h2 (by omega) (by omega)]
      rfl
  have k1 := puts_ok _ h hfo
  have k2 := putP_ok k1 (r := ⟨1, T⟩) (r_ok (by omega) (by decide))
  have k3 := putP_ok k2 (r := ⟨0, T⟩) (r_ok (by omega) (by decide))
  have k4 := puts_ok (rawByte T x.f1 (if x.f4 = 10 then 1 else 0)) k3 (rawByte_ok hT (by split <;> simp))
  have k5 := puts_ok (rawData T x.f1 x.f3.toList) k4 (rawData_ok hT _)
  have ed : x.f3.toList.drop 0 = x.f3.toList := rfl
  rw [rawByte_len] at k4 k5
  rw [rawData_len, (toList_eq x.f3).2.2] at k5
  rw [e1, Option.bind_some, put_eq k1 (by omega) (by omega), Option.bind_some, put_eq k2 (by omega) (by omega), Option.bind_some]
  rw [show x.f1 % 256 = x.f1 by omega, bytes_put k3 (by omega) hT g1 (by split <;> simp), Option.bind_some]
  rw [item_g hT g1 x.f3 x.f3.size 0 _ _ k4 (by omega) (by omega), ed, Option.bind_some]
  have ez : line_item.z T (puts (puts (putP (putP (puts o (frontR T x b)) ⟨1, T⟩) ⟨0, T⟩) (rawByte T x.f1 (if x.f4 = 10 then 1 else 0))) (rawData T x.f1 x.f3.toList)) x.f2 = some (puts (puts (puts (putP (putP (puts o (frontR T x b)) ⟨1, T⟩) ⟨0, T⟩) (rawByte T x.f1 (if x.f4 = 10 then 1 else 0))) (rawData T x.f1 x.f3.toList)) (stopR T x)) := by
    unfold line_item.z stopR
    by_cases c : x.f2 = 1
    · have k6 := putP_ok k5 (r := ⟨0, T⟩) (r_ok (by omega) (by decide))
      have k7 := putP_ok k6 (r := ⟨1, T⟩) (r_ok (by omega) (by decide))
      rw [if_pos c, if_pos c, put_eq k5 (by omega) (by omega), Option.bind_some, put_eq k6 (by omega) (by omega), Option.bind_some, w64 (x := 4 * T) (by omega) (by omega), put_eq k7 (by omega) (by omega)]
      rfl
    · rw [if_neg c, if_neg c]
      rfl
  rw [ez]
  unfold rawItem bodyR
  rw [puts_append, puts_append, puts_append, puts_append]
  rfl
theorem items_put {T : Int} (hT : tOk T) : ∀ (l : List ItT) (b : Bool) (k : Nat) (o : List RunT), OkR k o → (∀ x ∈ l, ItemOk x) → k + 110627 * l.length ≤ 400000000 →
    i2c_Encode.items T b l o = some (puts o (rawAll T b l)) ∧ OkR (k + 110627 * l.length) (puts o (rawAll T b l))
  | [], b, k, o, h, hl, hk => ⟨rfl, h⟩
  | x :: l, b, k, o, h, hl, hk => by
    have hx := hl x (.head _)
    simp only [List.length_cons] at hk ⊢
    have h1 := puts_ok _ h (item_ok hT hx.2 b)
    have hlen := item_len T hx.1.2.2.2.1 b
    have h2 : OkR (k + 110627) (puts o (rawItem T x b)) := ⟨Nat.le_trans h1.1 (by omega), Int.le_trans h1.2.1 (by omega), h1.2.2⟩
    obtain ⟨e, ho⟩ := items_put hT l (x.f2 == 1) _ _ h2 (fun y hy => hl y (.tail _ hy)) (by omega)
    refine ⟨?_, ?_⟩
    · show (line_item.f T o x.f0 x.f1 x.f2 x.f3 x.f4 b).bind _ = _
      rw [item_put h (by omega) hT hx b, Option.bind_some, e, ← puts_append]
      rfl
    · rw [show k + 110627 * (l.length + 1) = k + 110627 + 110627 * l.length by omega]
      show OkR _ (puts o (rawItem T x b ++ rawAll T (x.f2 == 1) l))
      rw [puts_append]
      exact ho
def chkV (x : ItT) (last : Bool) : Int :=
  if x.f0 < 0 ∨ x.f0 > 1048576 then 1 else if x.f3.size > 4096 then 6 else if x.f1 < 0 ∨ x.f1 > 255 ∨ x.f2 < 0 ∨ x.f2 > 1 then 2 else if x.f4 ≠ 0 ∧ x.f4 ≠ 10 then 1 else if (x.f4 = 10 ∧ x.f3.size ≠ 0) ∨ (last = true ∧ x.f2 = 0) then 17 else 0
theorem check_item (k : Nat) (x : ItT) (b : Bool) : i2c_check.f (k + 3) x.f0 x.f1 x.f2 x.f3 x.f4 b = some (chkV x b) := by
  unfold i2c_check.f chkV
  by_cases c1 : x.f0 < 0
  · rw [if_pos c1, if_pos (.inl c1)]
    rfl
  · rw [if_neg c1]
    by_cases c2 : x.f0 > 1048576
    · rw [decide_eq_true c2, if_pos (.inr c2)]
      rfl
    · rw [decide_eq_false c2, if_neg (by omega)]
      simp only [i2c_check.j0, if_neg Bool.false_ne_true]
      by_cases c3 : x.f3.size > 4096
      · rw [if_pos (by omega), if_pos c3]
      · rw [if_neg (by omega), if_neg c3]
        by_cases c4 : x.f1 < 0 ∨ x.f1 > 255 ∨ x.f2 < 0 ∨ x.f2 > 1
        · rw [if_pos c4]
          by_cases d1 : x.f1 < 0
          · rw [if_pos d1]
            rfl
          · rw [if_neg d1]
            by_cases d2 : x.f1 > 255
            · rw [if_pos d2]
              rfl
            · rw [if_neg d2]
              by_cases d3 : x.f2 < 0
              · rw [if_pos d3]
                rfl
              · rw [if_neg d3, decide_eq_true (show x.f2 > 1 by omega)]
                rfl
        · rw [if_neg c4, if_neg (by omega), if_neg (by omega), if_neg (by omega), decide_eq_false (show ¬ x.f2 > 1 by omega)]
          simp only [i2c_check.j1, if_neg Bool.false_ne_true]
          have fin : ∀ q : Prop, ∀ _ : Decidable q, (q ↔ (x.f4 = 10 ∧ x.f3.size ≠ 0) ∨ (b = true ∧ x.f2 = 0)) → i2c_check.j2 (k + 1) b false x.f0 x.f1 x.f2 x.f3 x.f4 = some (if q then 17 else 0) := by
            intro q _ hq
            simp only [i2c_check.j2, if_neg Bool.false_ne_true, toList_nil]
            by_cases e1 : x.f4 = 10
            · rw [if_pos e1]
              by_cases e2 : x.f3.size = 0
              · rw [if_pos e2]
                by_cases e3 : b = true
                · rw [if_pos e3]
                  by_cases e4 : x.f2 = 0
                  · rw [if_pos e4, if_pos (hq.mpr (.inr ⟨e3, e4⟩))]
                  · rw [if_neg e4, if_neg (fun h => by rcases hq.mp h with h | h; exact h.2 e2; exact e4 h.2)]
                · rw [if_neg e3, if_neg (fun h => by rcases hq.mp h with h | h; exact h.2 e2; exact e3 h.1)]
              · rw [if_neg e2, if_pos (hq.mpr (.inl ⟨e1, e2⟩))]
            · rw [if_neg e1]
              by_cases e3 : b = true
              · rw [if_pos e3]
                by_cases e4 : x.f2 = 0
                · rw [if_pos e4, if_pos (hq.mpr (.inr ⟨e3, e4⟩))]
                · rw [if_neg e4, if_neg (fun h => by rcases hq.mp h with h | h; exact e1 h.1; exact e4 h.2)]
              · rw [if_neg e3, if_neg (fun h => by rcases hq.mp h with h | h; exact e1 h.1; exact e3 h.1)]
          by_cases c5 : x.f4 = 0
          · rw [if_pos c5, if_neg (by omega)]
            exact fin _ _ Iff.rfl
          · rw [if_neg c5]
            by_cases c6 : x.f4 = 10
            · have e6 : (x.f4 != 10) = false := by rw [c6]; rfl
              rw [e6, if_neg (by omega)]
              exact fin _ _ Iff.rfl
            · have e6 : (x.f4 != 10) = true := bne_iff_ne.mpr c6
              rw [e6, if_pos ⟨c5, c6⟩]
              rfl
theorem chkV_ok {x : ItT} {b : Bool} (h : chkV x b = 0) : ItemOk x ∧ (b = true → x.f2 = 1) := by
  unfold chkV at h
  by_cases c1 : x.f0 < 0 ∨ x.f0 > 1048576
  · rw [if_pos c1] at h
    exact absurd h (by decide)
  · rw [if_neg c1] at h
    by_cases c2 : x.f3.size > 4096
    · rw [if_pos c2] at h
      exact absurd h (by decide)
    · rw [if_neg c2] at h
      by_cases c3 : x.f1 < 0 ∨ x.f1 > 255 ∨ x.f2 < 0 ∨ x.f2 > 1
      · rw [if_pos c3] at h
        exact absurd h (by decide)
      · rw [if_neg c3] at h
        by_cases c4 : x.f4 ≠ 0 ∧ x.f4 ≠ 10
        · rw [if_pos c4] at h
          exact absurd h (by decide)
        · rw [if_neg c4] at h
          by_cases c5 : (x.f4 = 10 ∧ x.f3.size ≠ 0) ∨ (b = true ∧ x.f2 = 0)
          · rw [if_pos c5] at h
            exact absurd h (by decide)
          · exact ⟨⟨⟨by omega, by omega, by omega, by omega, by omega, fun e => by
              by_cases z : x.f3.size = 0
              · exact z
              · exact absurd (.inl ⟨e, z⟩) c5⟩, by omega⟩, fun e => by
              by_cases z : x.f2 = 0
              · exact absurd (.inr ⟨e, z⟩) c5
              · omega⟩
def chkA (n : Nat) : Nat → List ItT → Int
  | _, [] => 0
  | i, x :: r => if chkV x ((i : Int) == (n : Int) - 1) = 0 then chkA n (i + 1) r else chkV x ((i : Int) == (n : Int) - 1)
theorem chk_eq (k n : Nat) : ∀ (l : List ItT) (i : Nat), i2c_Encode.chk (k + 3) n i l = some (chkA n i l)
  | [], i => rfl
  | x :: l, i => by
    show (i2c_check.f (k + 3) x.f0 x.f1 x.f2 x.f3 x.f4 ((i : Int) == (n : Int) - 1)).bind _ = _
    rw [check_item, Option.bind_some, chkA]
    split
    · exact chk_eq k n l (i + 1)
    · rfl
theorem chkA_ok {n : Nat} : ∀ (l : List ItT) (i : Nat) (b : Bool), i + l.length = n → chkA n i l = 0 → (l = [] → b = true) → (∀ x ∈ l, ItemOk x) ∧ lastV b l
  | [], i, b, hn, h, hb => ⟨fun x hx => absurd hx (by simp), hb rfl⟩
  | x :: l, i, b, hn, h, hb => by
    simp only [List.length_cons] at hn
    rw [chkA] at h
    split at h
    · rename_i c
      obtain ⟨hx, hlast⟩ := chkV_ok c
      obtain ⟨h1, h2⟩ := chkA_ok l (i + 1) (x.f2 == 1) (by omega) h (fun e => by
        subst e
        rw [hlast (by simp only [List.length_nil] at hn; rw [beq_iff_eq]; omega)]
        rfl)
      exact ⟨fun y hy => by
        rcases List.mem_cons.mp hy with rfl | hy
        · exact hx
        · exact h1 y hy, h2⟩
    · rename_i c
      exact absurd h c
def outV (T : Int) (l : List ItT) : List RunT := puts [⟨3, 4 * T⟩] (rawAll T true l)
def encV (T : Int) (l : List ItT) : List RunT × Int :=
  if okC T then (if l.length > 1024 then ([], 6) else if chkA l.length 0 l = 0 then (if (outV T l).length > 262144 then ([], 6) else if sumT (outV T l) > 1099511627776 then ([], 2) else (outV T l, 0)) else ([], chkA l.length 0 l)) else ([], 2)
theorem left_eq : ∀ (l : List RunT) (a : Int), (∀ r ∈ l, 1 ≤ r.f1) → a ≤ 1099511627776 → -9223372036854775808 ≤ a - sumT l → i2c_Encode.left a l = a - sumT l
  | [], a, h, ha, hb => by simp [i2c_Encode.left, sumT]
  | r :: l, a, h, ha, hb => by
    have h1 := h r (.head _)
    have h2 := sum_nonneg (fun x hx => h x (.tail _ hx) : ∀ x ∈ l, 1 ≤ x.f1)
    simp only [sumT] at hb ⊢
    rw [i2c_Encode.left, w64 (by omega) (by omega), left_eq l _ (fun x hx => h x (.tail _ hx)) (by omega) (by omega)]
    omega
theorem out_ok {T : Int} (hT : tOk T) {l : List ItT} (hl : l.length ≤ 1024) (h : chkA l.length 0 l = 0) : OkR (1 + 110627 * l.length) (outV T l) ∧ i2c_Encode.items T true l [⟨3, 4 * T⟩] = some (outV T l) := by
  obtain ⟨h1, h2⟩ := chkA_ok l 0 true (by omega) h (fun _ => rfl)
  have h0 : OkR 1 [⟨3, 4 * T⟩] := by
    have hT' := hT
    unfold tOk at hT'
    refine ⟨Nat.le_refl _, by simp only [sumT]; omega, fun y hy => ?_⟩
    rw [List.mem_singleton.mp hy]
    exact ⟨by show 1 ≤ 4 * T; omega, by show (0 : Int) ≤ 3; decide, by show (3 : Int) ≤ 3; decide⟩
  obtain ⟨e, ho⟩ := items_put hT l true 1 _ h0 h1 (by omega)
  exact ⟨ho, e⟩
theorem enc_at {T : Int} (l : List ItT) {k : Nat} (hk : 3 ≤ k) : i2c_Encode.f k T l = some (encV T l) := by
  obtain ⟨j, rfl⟩ : ∃ j, k = j + 3 := ⟨k - 3, by omega⟩
  unfold i2c_Encode.f encV
  rw [(check_eq T).1, Option.bind_some]
  by_cases hc : okC T
  · rw [check_ok hc, if_pos rfl, if_pos hc]
    by_cases hl : l.length > 1024
    · rw [if_pos (by omega), if_pos hl]
    · rw [if_neg (by omega), if_neg hl, chk_eq, Option.bind_some]
      by_cases h0 : chkA l.length 0 l = 0
      · rw [if_pos h0, if_pos h0]
        obtain ⟨ho, e⟩ := out_ok (T := T) hc (by omega) h0
        have hT' := hc
        unfold okC at hT'
        unfold i2c_Encode.rest
        rw [w64 (x := 4 * T) (by omega) (by omega), put_eq (k := 0) ⟨Nat.le_refl _, by simp [sumT], fun y hy => absurd hy (by simp)⟩ (by omega) (by omega), Option.bind_some]
        have e0 : putP [] ⟨3, 4 * T⟩ = [⟨3, 4 * T⟩] := by
          unfold putP
          rw [if_neg (by show ¬ 4 * T < 1; omega)]
          rfl
        rw [e0, e, Option.bind_some]
        have hs := ho.2.1
        have hn := sum_nonneg (fun y hy => (ho.2.2 y hy).1)
        rw [left_eq _ _ (fun y hy => (ho.2.2 y hy).1) (by omega) (by omega)]
        by_cases c1 : (outV T l).length > 262144
        · rw [if_pos (by omega), if_pos c1]
        · rw [if_neg (by omega), if_neg c1]
          by_cases c2 : sumT (outV T l) > 1099511627776
          · rw [if_pos (by omega), if_pos c2]
          · rw [if_neg (by omega), if_neg c2]
      · rw [if_neg h0, if_neg h0]
  · rw [check_no hc, if_neg (by decide), if_neg hc]
/-- What is encoded without an error. -/
theorem enc_good {T : Int} {l : List ItT} (h : (encV T l).2 = 0) : okC T ∧ (encV T l).1 = outV T l ∧ (outV T l).length ≤ 262144 ∧ sumT (outV T l) ≤ 1099511627776 ∧ (∀ y ∈ outV T l, 1 ≤ y.f1 ∧ 0 ≤ y.f0 ∧ y.f0 ≤ 3) ∧ (∀ x ∈ l, ItOk x) ∧ lastV true l ∧ l.length ≤ 1024 := by
  unfold encV at h ⊢
  by_cases hc : okC T
  · rw [if_pos hc] at h ⊢
    by_cases hl : l.length > 1024
    · rw [if_pos hl] at h
      exact absurd h (by decide : ¬ (6 : Int) = 0)
    · rw [if_neg hl] at h ⊢
      by_cases h0 : chkA l.length 0 l = 0
      · rw [if_pos h0] at h ⊢
        by_cases c1 : (outV T l).length > 262144
        · rw [if_pos c1] at h
          exact absurd h (by decide : ¬ (6 : Int) = 0)
        · rw [if_neg c1] at h ⊢
          by_cases c2 : sumT (outV T l) > 1099511627776
          · rw [if_pos c2] at h
            exact absurd h (by decide : ¬ (2 : Int) = 0)
          · rw [if_neg c2]
            obtain ⟨h1, h2⟩ := chkA_ok l 0 true (by omega) h0 (fun _ => rfl)
            exact ⟨hc, rfl, by omega, by omega, (out_ok (T := T) hc (by omega) h0).1.2.2, fun x hx => (h1 x hx).1, h2, by omega⟩
      · rw [if_neg h0] at h
        exact absurd h h0
  · rw [if_neg hc] at h
    exact absurd h (by decide : ¬ (2 : Int) = 0)
def expV (T : Int) (l : List ItT) : List EvT × Int := if (encV T l).2 = 0 then (decV T (levV 0 (outV T l)), 0) else ([], (encV T l).2)
theorem exp_ev (T : Int) (l : List ItT) : Ev (fun k => i2c_Expect.f k T l) (expV T l) := by
  unfold expV
  by_cases h : (encV T l).2 = 0
  · rw [if_pos h]
    obtain ⟨hc, e, h1, h2, h3, h4, h5, h6⟩ := enc_good h
    have hx := expect_l0 (c := T) (outV T l) [] [] 0 (Int.le_refl _) (fun y hy => (h3 y hy).1) (by omega) (by simpa using h1) (by simpa using h1)
    refine ev_same 3 (fun k hk => ?_) hx
    unfold i2c_Expect.f
    rw [enc_at l hk, Option.bind_some, if_pos h, e]
    rfl
  · rw [if_neg h]
    refine ev_same (f := fun _ => some ([], (encV T l).2)) 3 (fun k hk => ?_) (Ev.now _)
    unfold i2c_Expect.f
    rw [enc_at l hk, Option.bind_some, if_neg h]
def shE (d : Int) (e : EvT) : EvT := ⟨e.f0, e.f1 + d, e.f2 + d, e.f3, e.f4, e.f5, e.f6⟩
def Synced (d : Int) (a b : StT) : Prop := a.f0 = b.f0 ∧ (a.f0 = 2 → b.f2 = a.f2 + d ∧ b.f3 = a.f3 ∧ b.f4 = a.f4 ∧ b.f5 = a.f5 ∧ b.f7 = a.f7)
def Near (d : Int) (a b : StT) : Prop := a.f0 ≠ 0 ∧ b.f1 = a.f1 + d ∧ b.f6 = a.f6 ∧ (Synced d a b ∨ (a.f0 = 1 ∧ b.f0 = 2))
theorem frm_sh {d : Int} {a b : StT} (h : b.f2 = a.f2 + d ∧ b.f3 = a.f3 ∧ b.f4 = a.f4 ∧ b.f5 = a.f5 ∧ b.f7 = a.f7) (en stop : Int) : frmV b (en + d) stop = shE d (frmV a en stop) := by
  obtain ⟨h2, h3, h4, h5, h7⟩ := h
  unfold frmV shE fltV
  dsimp only
  rw [h2, h3, h5, h7]
theorem bitV_same' (s : StT) (v : Int) : (bitV s v).f2 = s.f2 := by
  unfold bitV
  split <;> rfl
theorem near_go {d : Int} {a b : StT} (h : Near d a b) (t u v : Int) : ∃ E, (goV b (t + d) (u + d) v).2 = E ++ (goV a t u v).2.map (shE d) ∧ Near d (goV a t u v).1 (goV b (t + d) (u + d) v).1 ∧ (Synced d a b → E = [] ∧ Synced d (goV a t u v).1 (goV b (t + d) (u + d) v).1) ∧ (¬ Synced d (goV a t u v).1 (goV b (t + d) (u + d) v).1 → (goV a t u v).2 = []) := by
  obtain ⟨h0, h1, h6, hs⟩ := h
  have hb0 : b.f0 ≠ 0 := by
    rcases hs with hs | hs
    · rw [← hs.1]; exact h0
    · omega
  have n2 : ¬ (1 : Int) = 2 := by decide
  by_cases c1 : chgV a.f6 v = 1
  · rw [goV_1 a t u v h0 c1, goV_1 b (t + d) (u + d) v hb0 (by rw [h6]; exact c1)]
    have hn : Synced d (⟨2, u, t, 0, 0, 0, v, ⟨#[]⟩⟩ : StT) ⟨2, u + d, t + d, 0, 0, 0, v, ⟨#[]⟩⟩ := ⟨rfl, fun _ => ⟨rfl, rfl, rfl, rfl, rfl⟩⟩
    rcases hs with hs | hs
    · refine ⟨[], ?_, ⟨(by decide : (2 : Int) ≠ 0), rfl, rfl, .inl hn⟩, fun _ => ⟨rfl, hn⟩, fun hh => absurd hn hh⟩
      by_cases c2 : a.f0 = 2
      · rw [if_pos c2, if_pos (by rw [← hs.1]; exact c2), frm_sh (hs.2 c2)]
        rfl
      · rw [if_neg c2, if_neg (by rw [← hs.1]; exact c2)]
        rfl
    · refine ⟨[frmV b (t + d) 0], ?_, ⟨(by decide : (2 : Int) ≠ 0), rfl, rfl, .inl hn⟩, fun hh => ?_, fun hh => absurd hn hh⟩
      · rw [if_pos hs.2, if_neg (by omega)]
        rfl
      · have := hh.1
        omega
  · by_cases c2 : chgV a.f6 v = 2
    · rw [goV_2 a t u v h0 c2, goV_2 b (t + d) (u + d) v hb0 (by rw [h6]; exact c2)]
      have hn : Synced d (⟨1, u, 0, 0, 0, 0, v, ⟨#[]⟩⟩ : StT) ⟨1, u + d, 0, 0, 0, 0, v, ⟨#[]⟩⟩ := ⟨rfl, fun hh => absurd hh n2⟩
      rcases hs with hs | hs
      · refine ⟨[], ?_, ⟨(by decide : (1 : Int) ≠ 0), rfl, rfl, .inl hn⟩, fun _ => ⟨rfl, hn⟩, fun hh => absurd hn hh⟩
        by_cases c2 : a.f0 = 2
        · rw [if_pos c2, if_pos (by rw [← hs.1]; exact c2), frm_sh (hs.2 c2)]
          rfl
        · rw [if_neg c2, if_neg (by rw [← hs.1]; exact c2)]
          rfl
      · refine ⟨[frmV b (t + d) 1], ?_, ⟨(by decide : (1 : Int) ≠ 0), rfl, rfl, .inl hn⟩, fun hh => ?_, fun hh => absurd hn hh⟩
        · rw [if_pos hs.2, if_neg (by omega)]
          rfl
        · have := hh.1
          omega
    · unfold goV
      rw [h6]
      simp only [if_neg h0, if_neg hb0, if_neg c1, if_neg c2]
      by_cases c3 : chgV a.f6 v = 3
      · rcases hs with hs | hs
        · by_cases a2 : a.f0 = 2
          · have b2 : b.f0 = 2 := by rw [← hs.1]; exact a2
            obtain ⟨k2, k3, k4, k5, k7⟩ := hs.2 a2
            simp only [if_pos (And.intro c3 a2), if_pos (And.intro c3 b2)]
            have hn : Synced d (bitV ⟨a.f0, u, a.f2, a.f3, a.f4, a.f5, v, a.f7⟩ (v / 2)) (bitV ⟨b.f0, u + d, b.f2, b.f3, b.f4, b.f5, v, b.f7⟩ (v / 2)) := by
              unfold bitV
              dsimp only
              rw [k3]
              by_cases c8 : a.f3 < 8
              · rw [if_pos c8, if_pos c8]
                exact ⟨hs.1, fun _ => ⟨k2, rfl, by show 2 * b.f4 + _ = 2 * a.f4 + _; rw [k4], k5, k7⟩⟩
              · rw [if_neg c8, if_neg c8]
                refine ⟨hs.1, fun _ => ⟨k2, rfl, rfl, ?_, ?_⟩⟩
                · show auxV b.f5 _ b.f7.size = auxV a.f5 _ a.f7.size
                  rw [k5, k7]
                · show (if b.f7.size ≤ 4096 then b.f7 ++ (⟨#[UInt8.ofNat b.f4.toNat]⟩ : ByteArray) else b.f7) = (if a.f7.size ≤ 4096 then a.f7 ++ (⟨#[UInt8.ofNat a.f4.toNat]⟩ : ByteArray) else a.f7)
                  rw [k4, k7]
            obtain ⟨p1, p2, p3⟩ := bitV_prev ⟨a.f0, u, a.f2, a.f3, a.f4, a.f5, v, a.f7⟩ (v / 2)
            obtain ⟨q1, q2, q3⟩ := bitV_prev ⟨b.f0, u + d, b.f2, b.f3, b.f4, b.f5, v, b.f7⟩ (v / 2)
            exact ⟨[], rfl, ⟨by rw [p2]; exact h0, by rw [q3, p3], by rw [q1, p1], .inl hn⟩, fun _ => ⟨rfl, hn⟩, fun _ => by first | rfl | trivial⟩
          · have b2 : ¬ b.f0 = 2 := by rw [← hs.1]; exact a2
            simp only [if_neg (fun hh : chgV a.f6 v = 3 ∧ a.f0 = 2 => a2 hh.2), if_neg (fun hh : chgV a.f6 v = 3 ∧ b.f0 = 2 => b2 hh.2)]
            have hn : Synced d (⟨a.f0, u, a.f2, a.f3, a.f4, a.f5, v, a.f7⟩ : StT) ⟨b.f0, u + d, b.f2, b.f3, b.f4, b.f5, v, b.f7⟩ := ⟨hs.1, fun hh => absurd hh a2⟩
            exact ⟨[], rfl, ⟨h0, rfl, rfl, .inl hn⟩, fun _ => ⟨rfl, hn⟩, fun _ => by first | rfl | trivial⟩
        · simp only [if_neg (fun hh : chgV a.f6 v = 3 ∧ a.f0 = 2 => by omega), if_pos (And.intro c3 hs.2)]
          obtain ⟨q1, q2, q3⟩ := bitV_prev ⟨b.f0, u + d, b.f2, b.f3, b.f4, b.f5, v, b.f7⟩ (v / 2)
          exact ⟨[], rfl, ⟨h0, by rw [q3], by rw [q1], .inr ⟨hs.1, by rw [q2]; exact hs.2⟩⟩, fun hh => by have := hh.1; omega, fun _ => by first | rfl | trivial⟩
      · simp only [if_neg (fun hh : chgV a.f6 v = 3 ∧ a.f0 = 2 => c3 hh.1), if_neg (fun hh : chgV a.f6 v = 3 ∧ b.f0 = 2 => c3 hh.1)]
        refine ⟨[], rfl, ⟨h0, rfl, rfl, hs.imp (fun hh => ⟨hh.1, hh.2⟩) id⟩, fun hh => ⟨rfl, ⟨hh.1, hh.2⟩⟩, fun _ => by first | rfl | trivial⟩
theorem near_walk {d : Int} : ∀ (l : List RunT) (a b : StT) (t : Int), Near d a b → ∃ E, (walk b (t + d) l).2 = E ++ (walk a t l).2.map (shE d) ∧ Near d (walk a t l).1 (walk b (t + d) l).1 ∧ (Synced d a b → E = [] ∧ Synced d (walk a t l).1 (walk b (t + d) l).1) ∧ (¬ Synced d (walk a t l).1 (walk b (t + d) l).1 → (walk a t l).2 = [])
  | [], a, b, t, h => ⟨[], rfl, h, fun hh => ⟨rfl, hh⟩, fun _ => rfl⟩
  | r :: l, a, b, t, h => by
    obtain ⟨E, e1, e2, e3, e4⟩ := near_go h t (t + r.f1) r.f0
    rw [show t + r.f1 + d = t + d + r.f1 by omega] at e1 e2 e3 e4
    obtain ⟨F, f1, f2, f3, f4⟩ := near_walk l _ _ (t + r.f1) e2
    rw [show t + r.f1 + d = t + d + r.f1 by omega] at f1 f2 f3 f4
    simp only [walk]
    by_cases hs : Synced d (goV a t (t + r.f1) r.f0).1 (goV b (t + d) (t + d + r.f1) r.f0).1
    · obtain ⟨rfl, hs2⟩ := f3 hs
      refine ⟨E, ?_, f2, fun hh => ⟨(e3 hh).1, hs2⟩, fun hh => absurd hs2 hh⟩
      rw [e1, f1, List.map_append, List.nil_append, List.append_assoc]
    · have ha := e4 hs
      refine ⟨E ++ F, ?_, f2, fun hh => absurd (e3 hh).2 hs, fun hh => ?_⟩
      · rw [e1, f1, ha]
        simp
      · rw [ha, f4 hh]
        rfl
def Ph (s : StT) : Prop := s.f0 = 0 ∨ s.f0 = 1 ∨ s.f0 = 2
theorem goV_ph {s : StT} (h : Ph s) (a b v : Int) : (goV s a b v).1.f0 = 1 ∨ (goV s a b v).1.f0 = 2 := by
  unfold goV
  by_cases c0 : s.f0 = 0
  · rw [if_pos c0]
    exact .inl rfl
  · rw [if_neg c0]
    by_cases c1 : chgV s.f6 v = 1
    · rw [if_pos c1]
      exact .inr rfl
    · rw [if_neg c1]
      by_cases c2 : chgV s.f6 v = 2
      · rw [if_pos c2]
        exact .inl rfl
      · rw [if_neg c2]
        by_cases c3 : chgV s.f6 v = 3 ∧ s.f0 = 2
        · rw [if_pos c3]
          exact .inr ((bitV_prev _ _).2.1.trans c3.2)
        · rw [if_neg c3]
          show s.f0 = 1 ∨ s.f0 = 2
          unfold Ph at h
          omega
/-- What is decoded of runs, after any other state: at last the same events, later. -/
theorem resume {c d : Int} (hc : okC c) {s : StT} (r : RunT) (l : List RunT) (hs : Ph s) :
    ∃ E F, (walk s d (r :: l)).2 ++ endV c (walk s d (r :: l)).1 = E ++ ((walk z0 0 (r :: l)).2 ++ endV c (walk z0 0 (r :: l)).1).map (shE d) ++ F ∧ (F = [] ∨ (walk z0 0 (r :: l)).2 ++ endV c (walk z0 0 (r :: l)).1 = []) := by
  have hz : goV z0 0 (0 + r.f1) r.f0 = (⟨1, 0 + r.f1, 0, 0, 0, 0, r.f0, ⟨#[]⟩⟩, []) := rfl
  have hn : Near d (⟨1, 0 + r.f1, 0, 0, 0, 0, r.f0, ⟨#[]⟩⟩ : StT) (goV s d (d + r.f1) r.f0).1 := by
    obtain ⟨g1, g2, g3⟩ := goV_end s d (d + r.f1) r.f0
    refine ⟨(by decide : (1 : Int) ≠ 0), by rw [g3]; show d + r.f1 = 0 + r.f1 + d; omega, g1, ?_⟩
    rcases goV_ph hs d (d + r.f1) r.f0 with h | h
    · exact .inl ⟨h.symm, fun hh => absurd hh (by decide : ¬ (1 : Int) = 2)⟩
    · exact .inr ⟨rfl, h⟩
  obtain ⟨E, e1, ⟨n0, n1, n6, nn⟩, e3, e4⟩ := near_walk l _ _ (0 + r.f1) hn
  rw [show 0 + r.f1 + d = d + r.f1 by omega] at e1 n1 n6 nn e3 e4
  simp only [walk]
  rw [hz]
  dsimp only
  rw [e1]
  by_cases hsy : Synced d (walk ⟨1, 0 + r.f1, 0, 0, 0, 0, r.f0, ⟨#[]⟩⟩ (0 + r.f1) l).1 (walk (goV s d (d + r.f1) r.f0).1 (d + r.f1) l).1
  · refine ⟨(goV s d (d + r.f1) r.f0).2 ++ E, [], ?_, .inl rfl⟩
    have ee : endV c (walk (goV s d (d + r.f1) r.f0).1 (d + r.f1) l).1 = (endV c (walk ⟨1, 0 + r.f1, 0, 0, 0, 0, r.f0, ⟨#[]⟩⟩ (0 + r.f1) l).1).map (shE d) := by
      unfold endV
      rw [← hsy.1]
      by_cases h2 : (walk ⟨1, 0 + r.f1, 0, 0, 0, 0, r.f0, ⟨#[]⟩⟩ (0 + r.f1) l).1.f0 = 2
      · rw [if_pos ⟨hc, h2⟩, if_pos ⟨hc, h2⟩, (hsy.2 h2).1, n1]
        rfl
      · rw [if_neg (fun hh => h2 hh.2), if_neg (fun hh => h2 hh.2)]
        rfl
    rw [ee]
    simp only [List.nil_append, List.append_nil, List.map_append, List.append_assoc]
  · have ha := e4 hsy
    have hp := nn.resolve_left hsy
    have ez : endV c (walk ⟨1, 0 + r.f1, 0, 0, 0, 0, r.f0, ⟨#[]⟩⟩ (0 + r.f1) l).1 = [] := by
      unfold endV
      rw [if_neg (fun hh => by have := hh.2; omega)]
    refine ⟨(goV s d (d + r.f1) r.f0).2 ++ E, endV c (walk (goV s d (d + r.f1) r.f0).1 (d + r.f1) l).1, ?_, .inr ?_⟩
    · rw [ha, ez]
      simp only [List.append_nil, List.map_nil, List.append_assoc]
    · rw [ha, ez]
      rfl
theorem sub_sh {d a : Int} (h : -9223372036854775808 ≤ a) (h1 : a ≤ 9223372036854775807) : wrap64 (a + d - d) = a := by
  rw [show a + d - d = a by omega, w64 h h1]
theorem res_l2 {d : Int} {E F W : List EvT} (hb : ∀ x ∈ W, -9223372036854775808 ≤ x.f1 ∧ x.f1 ≤ 9223372036854775807 ∧ -9223372036854775808 ≤ x.f2 ∧ x.f2 ≤ 9223372036854775807) (hF : F = [] ∨ W = []) (hl : (E ++ W.map (shE d) ++ F).length ≤ 140737488355328) :
    ∀ (post pre : List EvT), pre ++ post = W → Ev (fun k => signalbenchlaw23_I2cResumes.l2 k d (E ++ W.map (shE d) ++ F) W (pre.length : Int)) true
  | [], pre, hw => by
    refine Ev.step (fun k => ?_) awake23_then
    simp only [signalbenchlaw23_I2cResumes.l2]
    rw [if_neg (by rw [← hw]; simp)]
  | x :: post, pre, hw => by
    have hF' : F = [] := hF.resolve_right (fun e => by rw [e] at hw; simp at hw)
    subst hF'
    have hL : (E ++ W.map (shE d) ++ []).length = E.length + W.length := by simp
    have hW : W.length = pre.length + post.length + 1 := by rw [← hw]; simp only [List.length_append, List.length_cons]; omega
    rw [hL] at hl
    have hx := hb x (by rw [← hw]; simp)
    have w1 : wrap64 (((E ++ W.map (shE d) ++ []).length : Int) - (W.length : Int)) = (E.length : Int) := by rw [hL, w64 (by omega) (by omega)]; omega
    have w2 : wrap64 ((E.length : Int) + (pre.length : Int)) = ((E ++ pre.map (shE d)).length : Int) := by
      rw [w64 (by omega) (by omega)]
      simp
    have es : E ++ W.map (shE d) ++ [] = (E ++ pre.map (shE d)) ++ shE d x :: post.map (shE d) := by rw [← hw]; simp
    have r1 : rd_T27 (E ++ W.map (shE d) ++ []) ((E ++ pre.map (shE d)).length : Int) = shE d x := by rw [es]; exact rdE_mid _ _ _
    have r2 : rd_T27 W (pre.length : Int) = x := by rw [← hw]; exact rdE_mid _ _ _
    have ih := res_l2 hb hF (by rw [hL]; exact hl) post (pre ++ [x]) (by rw [← hw]; simp)
    refine Ev.step (fun k => ?_) ih
    simp only [signalbenchlaw23_I2cResumes.l2]
    rw [w1, w2, r1, r2, if_pos (by omega), if_pos (by omega), if_pos (by simp only [List.length_append, List.length_map, List.length_nil]; omega), if_pos (by omega)]
    have e1 : wrap64 ((shE d x).f1 - d) = x.f1 := sub_sh hx.1 hx.2.1
    have e2 : wrap64 ((shE d x).f2 - d) = x.f2 := sub_sh hx.2.2.1 hx.2.2.2
    rw [e1, e2, if_neg (by simp [shE]), succ_mid _ _ (by omega)]
def Rg (M x : Int) : Prop := 0 ≤ x ∧ x ≤ M
theorem goV_rg {M : Int} {s : StT} (h2 : Rg M s.f2) {a b v : Int} (ha : Rg M a) : (∀ x ∈ (goV s a b v).2, Rg M x.f1 ∧ Rg M x.f2) ∧ Rg M (goV s a b v).1.f2 := by
  have h0 : Rg M 0 := ⟨Int.le_refl 0, by unfold Rg at ha; omega⟩
  have hf : ∀ stop : Int, ∀ x ∈ (if s.f0 = 2 then [frmV s a stop] else []), Rg M x.f1 ∧ Rg M x.f2 := fun stop x hx => by
    by_cases c : s.f0 = 2
    · rw [if_pos c, List.mem_singleton] at hx
      rw [hx]
      exact ⟨h2, ha⟩
    · rw [if_neg c] at hx
      exact absurd hx (by simp)
  unfold goV
  by_cases c0 : s.f0 = 0
  · rw [if_pos c0]
    exact ⟨fun x hx => absurd hx (by simp), h0⟩
  · rw [if_neg c0]
    by_cases c1 : chgV s.f6 v = 1
    · rw [if_pos c1]
      exact ⟨hf 0, ha⟩
    · rw [if_neg c1]
      by_cases c2 : chgV s.f6 v = 2
      · rw [if_pos c2]
        exact ⟨hf 1, h0⟩
      · rw [if_neg c2]
        by_cases c3 : chgV s.f6 v = 3 ∧ s.f0 = 2
        · rw [if_pos c3]
          refine ⟨fun x hx => absurd hx (by simp), ?_⟩
          have e := (bitV_same' ⟨s.f0, b, s.f2, s.f3, s.f4, s.f5, v, s.f7⟩ (v / 2))
          show Rg M (bitV ⟨s.f0, b, s.f2, s.f3, s.f4, s.f5, v, s.f7⟩ (v / 2)).f2
          rw [e]
          exact h2
        · rw [if_neg c3]
          exact ⟨fun x hx => absurd hx (by simp), h2⟩
theorem walk_rg {M : Int} : ∀ (l : List RunT) (s : StT) (t : Int), 0 ≤ t → (∀ r ∈ l, 1 ≤ r.f1) → t + sumT l ≤ M → Rg M s.f2 → Rg M s.f1 → (∀ x ∈ (walk s t l).2, Rg M x.f1 ∧ Rg M x.f2) ∧ Rg M (walk s t l).1.f2 ∧ Rg M (walk s t l).1.f1
  | [], s, t, h0, hr, hs, h2, h1 => ⟨fun x hx => absurd hx (by simp [walk]), h2, h1⟩
  | r :: l, s, t, h0, hr, hs, h2, h1 => by
    have g1 := hr r (.head _)
    have g2 : ∀ x ∈ l, 1 ≤ x.f1 := fun x hx => hr x (.tail _ hx)
    have g3 := sum_nonneg g2
    simp only [sumT] at hs
    obtain ⟨q1, q2⟩ := goV_rg h2 (a := t) (b := t + r.f1) (v := r.f0) ⟨h0, by omega⟩
    have q3 := (goV_end s t (t + r.f1) r.f0).2.2
    obtain ⟨w1, w2, w3⟩ := walk_rg l _ (t + r.f1) (by omega) g2 (by omega) q2 (by rw [q3]; exact ⟨by omega, by omega⟩)
    simp only [walk]
    refine ⟨fun x hx => ?_, w2, w3⟩
    rcases List.mem_append.mp hx with hx | hx
    · exact q1 x hx
    · exact w1 x hx
theorem walk_time : ∀ (l : List RunT) (s : StT) (t : Int), l ≠ [] → (walk s t l).1.f1 = t + sumT l
  | [], s, t, h => absurd rfl h
  | [r], s, t, h => by
    simp only [walk, sumT]
    rw [(goV_end s t (t + r.f1) r.f0).2.2]
    omega
  | r :: x :: l, s, t, h => by
    have ih := walk_time (x :: l) (goV s t (t + r.f1) r.f0).1 (t + r.f1) (by simp)
    have e : (walk s t (r :: x :: l)).1 = (walk (goV s t (t + r.f1) r.f0).1 (t + r.f1) (x :: l)).1 := rfl
    rw [e, ih]
    simp only [sumT]
    omega
theorem walk_ph : ∀ (l : List RunT) (s : StT) (t : Int), Ph s → Ph (walk s t l).1
  | [], s, t, h => h
  | r :: l, s, t, h => walk_ph l _ _ (.inr (goV_ph h ..))
/-- What is decoded of other levels and then of the levels that were sent. -/
theorem dec_ahead {c : Int} (hc : okC c) {A R : List RunT} (hA : ∀ r ∈ A, 1 ≤ r.f1 ∧ 0 ≤ r.f0 ∧ r.f0 ≤ 3) (hR : ∀ r ∈ R, 1 ≤ r.f1 ∧ 0 ≤ r.f0 ∧ r.f0 ≤ 3) (hs : sumT A + sumT R ≤ 1099511627776) :
    ∃ E F, decV c (levV 0 A ++ levV (sumT A) R) = E ++ (decV c (levV 0 R)).map (shE (sumT A)) ++ F ∧ (F = [] ∨ decV c (levV 0 R) = []) ∧ (∀ x ∈ decV c (levV 0 R), Rg 1099511627776 x.f1 ∧ Rg 1099511627776 x.f2) := by
  have pA := sum_nonneg (fun r hr => (hA r hr).1)
  have pR := sum_nonneg (fun r hr => (hR r hr).1)
  have rA := run_lev hc A z0 0 (.inl rfl) (Int.le_refl _) hA (by omega)
  have rR := run_lev hc R z0 0 (.inl rfl) (Int.le_refl _) hR (by omega)
  have link : (walk z0 0 A).1.f0 = 0 ∨ sumT A = (walk z0 0 A).1.f1 := by
    by_cases e : A = []
    · subst e
      exact .inl rfl
    · rw [walk_time A z0 0 e]
      exact .inr (by omega)
  have rB := run_lev hc R (walk z0 0 A).1 (sumT A) link pA hR (by omega)
  have eW : decV c (levV 0 R) = (walk z0 0 R).2 ++ endV c (walk z0 0 R).1 := by unfold decV; rw [rR]
  have eM : decV c (levV 0 A ++ levV (sumT A) R) = (walk z0 0 A).2 ++ ((walk (walk z0 0 A).1 (sumT A) R).2 ++ endV c (walk (walk z0 0 A).1 (sumT A) R).1) := by
    unfold decV
    rw [runV_append, rA, rB, List.append_assoc]
  have hrg : ∀ x ∈ decV c (levV 0 R), Rg 1099511627776 x.f1 ∧ Rg 1099511627776 x.f2 := by
    obtain ⟨w1, w2, w3⟩ := walk_rg (M := 1099511627776) R z0 0 (Int.le_refl _) (fun r hr => (hR r hr).1) (by omega) ⟨Int.le_refl 0, by decide⟩ ⟨Int.le_refl 0, by decide⟩
    rw [eW]
    intro x hx
    rcases List.mem_append.mp hx with hx | hx
    · exact w1 x hx
    · unfold endV at hx
      split at hx
      · rw [List.mem_singleton.mp hx]
        exact ⟨w2, w3⟩
      · exact absurd hx (by simp)
  cases R with
  | nil =>
    have e0 : decV c (levV 0 []) = [] := by
      rw [eW]
      show [] ++ endV c z0 = []
      unfold endV
      rw [if_neg (fun hh => absurd hh.2 (by decide : ¬ (0 : Int) = 2))]
      rfl
    exact ⟨_, [], by rw [e0, List.map_nil, List.append_nil, List.append_nil], .inl rfl, hrg⟩
  | cons r R =>
    obtain ⟨E, F, h1, h2⟩ := resume (d := sumT A) hc r R (walk_ph A z0 0 (.inl rfl))
    refine ⟨(walk z0 0 A).2 ++ E, F, ?_, by rw [eW]; exact h2, hrg⟩
    rw [eM, h1, eW]
    simp only [List.append_assoc]
theorem levV_append : ∀ (p q : List RunT) (t : Int), levV t (p ++ q) = levV t p ++ levV (t + sumT p) q
  | [], q, t => by simp [levV, sumT]
  | r :: p, q, t => by
    simp only [List.cons_append, levV, sumT, levV_append p q, Int.add_assoc]
theorem level_eq (a b v : Int) : signalbenchlaw23_level.f a b v = some (1, a, b, v, 0, (⟨#[]⟩ : ByteArray), 0) := rfl
theorem res_j5 {d : Int} {E F W : List EvT} (hb : ∀ x ∈ W, Rg 1099511627776 x.f1 ∧ Rg 1099511627776 x.f2) (hF : F = [] ∨ W = []) (hl : (E ++ W.map (shE d) ++ F).length ≤ 140737488355328) :
    Ev (fun k => signalbenchlaw23_I2cResumes.j5 k d (E ++ W.map (shE d) ++ F) W (decide (((E ++ W.map (shE d) ++ F).length : Int) < (W.length : Int)))) true := by
  have hlen : ¬ (((E ++ W.map (shE d) ++ F).length : Int) < (W.length : Int)) := by
    simp only [List.length_append, List.length_map]
    omega
  rw [decide_eq_false hlen]
  have h := res_l2 (d := d) (E := E) (F := F) (W := W) (fun x hx => by
    have := hb x hx
    unfold Rg at this
    omega) hF hl W [] rfl
  refine Ev.step (fun k => ?_) h
  rw [signalbenchlaw23_I2cResumes.j5]
  exact if_neg Bool.false_ne_true
theorem res_l1 {c : Int} {l : List ItT} (h : (encV c l).2 = 0) {A : List RunT} (hA : ∀ r ∈ A, 1 ≤ r.f1 ∧ 0 ≤ r.f0 ∧ r.f0 ≤ 3) (hAl : A.length ≤ 200) (hAs : sumT A ≤ 209715200) : ∀ (post pre : List RunT), outV c l = pre ++ post → (post = [] → sumT A + sumT (outV c l) ≤ 1099511627776) → sumT A + sumT pre ≤ 1099511627776 →
    Ev (fun k => signalbenchlaw23_I2cResumes.l1 k l (outV c l) (sumT A) (levV 0 A ++ levV (sumT A) pre) (sumT A + sumT pre) (pre.length : Int) c) true
  | [], pre, hw, hs, hp => by
    obtain ⟨hc, e, h1, h2, h3, h4, h5, h6⟩ := enc_good h
    obtain ⟨E, F, hm, hF, hrg⟩ := dec_ahead hc hA h3 (hs rfl)
    rw [List.append_nil] at hw
    subst hw
    have hlen : (levV 0 A ++ levV (sumT A) (outV c l)).length ≤ 262344 := by
      rw [List.length_append, levV_len, levV_len]
      omega
    have hd := dec_ev c (l := levV 0 A ++ levV (sumT A) (outV c l)) (Nat.le_trans hlen (by decide))
    have hML : (decV c (levV 0 A ++ levV (sumT A) (outV c l))).length ≤ 140737488355328 := Nat.le_trans (decV_len c _) (Nat.le_trans (Nat.succ_le_succ hlen) (by decide))
    have hx := exp_ev c l
    have hxe : expV c l = (decV c (levV 0 (outV c l)), 0) := if_pos h
    rw [hxe] at hx
    rw [hm] at hd hML
    have h5 := res_j5 hrg hF hML
    have hb2 := Ev.bind (f := fun k (bt712 : List EvT × Int) => if bt712.2 = 0 then (signalbenchlaw23_I2cResumes.j5 k (sumT A) (E ++ (decV c (levV 0 (outV c l))).map (shE (sumT A)) ++ F) bt712.1 (decide (((E ++ (decV c (levV 0 (outV c l))).map (shE (sumT A)) ++ F).length : Int) < (bt712.1.length : Int)))) else (signalbenchlaw23_I2cResumes.j5 k (sumT A) (E ++ (decV c (levV 0 (outV c l))).map (shE (sumT A)) ++ F) bt712.1 true)) hx (Ev.congr (fun k => if_pos rfl) h5)
    have hb1 := Ev.bind (f := fun k (t709 : List EvT) => (i2c_Expect.f k c l).bind fun bt712 => (if bt712.2 = 0 then (signalbenchlaw23_I2cResumes.j5 k (sumT A) t709 bt712.1 (decide ((t709.length : Int) < (bt712.1.length : Int)))) else (signalbenchlaw23_I2cResumes.j5 k (sumT A) t709 bt712.1 true))) hd hb2
    refine Ev.step (fun k => ?_) hb1
    rw [signalbenchlaw23_I2cResumes.l1]
    exact if_neg (by omega)
  | r :: post, pre, hw, hs, hp => by
    obtain ⟨hc, e, h1, h2, h3, h4, h5, h6⟩ := enc_good h
    have hr3 := h3 r (by rw [hw]; simp)
    have pA := sum_nonneg (fun r hr => (hA r hr).1)
    have pP := sum_nonneg (fun r hr => (h3 r (by rw [hw]; exact List.mem_append_left _ hr)).1 : ∀ r ∈ pre, 1 ≤ r.f1)
    have hlt : (pre.length : Int) < ((outV c l).length : Int) := by rw [hw]; exact midl_lt pre post r
    have hx : rd_T53 (outV c l) (pre.length : Int) = r := by rw [hw]; exact rdR_mid pre post r
    have hpl : pre.length ≤ 262144 := by
      have := h1
      rw [hw, List.length_append] at this
      omega
    have hyes : Ev (fun k => signalbenchlaw23_I2cResumes.j4 k l (outV c l) (sumT A) (levV 0 A ++ levV (sumT A) pre) (sumT A + sumT pre) (pre.length : Int) true c) true := Ev.step (fun k => by rw [signalbenchlaw23_I2cResumes.j4]; exact if_pos rfl) awake23_then
    have p0 : (0 : Int) ≤ (pre.length : Int) := Int.natCast_nonneg _
    by_cases c1 : r.f1 > 549755813888
    · refine Ev.step (fun k => ?_) hyes
      rw [signalbenchlaw23_I2cResumes.l1, hx]
      exact (if_pos hlt).trans ((if_pos p0).trans (if_pos c1))
    · by_cases c2 : sumT A + sumT pre > 549755813888
      · refine Ev.step (fun k => ?_) hyes
        rw [signalbenchlaw23_I2cResumes.l1, hx, decide_eq_true c2]
        exact (if_pos hlt).trans ((if_pos p0).trans (if_neg c1))
      · have es : sumT (pre ++ [r]) = sumT pre + r.f1 := by rw [sumT_append]; simp [sumT]
        have ih := res_l1 h hA hAl hAs post (pre ++ [r]) (by rw [hw]; simp) (fun hn => by
          have : outV c l = pre ++ [r] := by rw [hw, hn]
          rw [this, es]
          omega) (by rw [es]; omega)
        have el : levV 0 A ++ levV (sumT A) (pre ++ [r]) = levV 0 A ++ levV (sumT A) pre ++ [(⟨1, sumT A + sumT pre, sumT A + sumT pre + r.f1, r.f0, 0, ⟨#[]⟩, 0⟩ : EvT)] := by
          rw [levV_append, List.append_assoc]
          rfl
        have ew : wrap64 (sumT A + sumT pre + r.f1) = sumT A + sumT (pre ++ [r]) := by rw [es, w64 (by omega) (by omega)]; omega
        have ei : wrap64 ((pre.length : Int) + 1) = ((pre ++ [r]).length : Int) := by
          rw [w64 (by omega) (by omega)]
          simp
        have hq : (levV 0 A ++ levV (sumT A) pre).length < 2199023255552 := by
          rw [List.length_append, levV_len, levV_len]
          omega
        have hj4 : Ev (fun k => signalbenchlaw23_I2cResumes.j4 k l (outV c l) (sumT A) (levV 0 A ++ levV (sumT A) pre) (sumT A + sumT pre) (pre.length : Int) false c) true := by
          refine Ev.step (fun k => ?_) ih
          rw [signalbenchlaw23_I2cResumes.j4, hx, level_eq, ew, ei]
          refine (if_neg Bool.false_ne_true).trans ((if_pos p0).trans ((if_pos hlt).trans ?_))
          rw [Option.bind_some]
          refine (if_pos hq).trans ?_
          dsimp only
          rw [el, es, ← Int.add_assoc]
        refine Ev.step (fun k => ?_) hj4
        rw [signalbenchlaw23_I2cResumes.l1, hx, decide_eq_false c2]
        exact (if_pos hlt).trans ((if_pos p0).trans (if_neg c1))
theorem res_l0 {c : Int} {l : List ItT} (h : (encV c l).2 = 0) {L : List RunT} (hL : L.length ≤ 200) : ∀ (post pre : List RunT), L = pre ++ post → (∀ r ∈ pre, 1 ≤ r.f1 ∧ 0 ≤ r.f0 ∧ r.f0 ≤ 3) → sumT pre ≤ 1048576 * (pre.length : Int) →
    Ev (fun k => signalbenchlaw23_I2cResumes.l0 k L l (outV c l) (sumT pre) (levV 0 pre) (pre.length : Int) c) true
  | [], pre, hw, hp, hs => by
    rw [List.append_nil] at hw
    subst hw
    have pA := sum_nonneg (fun r hr => (hp r hr).1)
    have h1 := res_l1 h hp hL (by omega) (outV c l) [] rfl (fun e => by
      have := (enc_good h).2.2.2.1
      rw [e]
      simp only [sumT]
      omega) (by simp only [sumT]; omega)
    refine Ev.step (fun k => ?_) h1
    rw [signalbenchlaw23_I2cResumes.l0]
    refine (if_neg (by omega)).trans ?_
    simp only [levV, List.append_nil, sumT, Int.add_zero, List.length_nil]
    rfl
  | r :: post, pre, hw, hp, hs => by
    have pA := sum_nonneg (fun r hr => (hp r hr).1)
    have hlt : (pre.length : Int) < (L.length : Int) := by rw [hw]; exact midl_lt pre post r
    have hx : rd_T53 L (pre.length : Int) = r := by rw [hw]; exact rdR_mid pre post r
    have hpl : pre.length ≤ 200 := by
      have := hL
      rw [hw, List.length_append] at this
      omega
    have hyes : Ev (fun k => signalbenchlaw23_I2cResumes.j2 k L l (outV c l) (sumT pre) (levV 0 pre) (pre.length : Int) true c) true := Ev.step (fun k => by rw [signalbenchlaw23_I2cResumes.j2]; exact if_pos rfl) awake23_then
    have p0 : (0 : Int) ≤ (pre.length : Int) := Int.natCast_nonneg _
    by_cases c1 : r.f0 < 0
    · refine Ev.step (fun k => ?_) hyes
      rw [signalbenchlaw23_I2cResumes.l0, hx]
      exact (if_pos hlt).trans ((if_pos p0).trans (if_pos c1))
    · by_cases c2 : r.f0 > 3
      · refine Ev.step (fun k => ?_) hyes
        rw [signalbenchlaw23_I2cResumes.l0, hx]
        exact (if_pos hlt).trans ((if_pos p0).trans ((if_neg c1).trans (if_pos c2)))
      · by_cases c3 : r.f1 < 1
        · refine Ev.step (fun k => ?_) hyes
          rw [signalbenchlaw23_I2cResumes.l0, hx]
          exact (if_pos hlt).trans ((if_pos p0).trans ((if_neg c1).trans ((if_neg c2).trans (if_pos c3))))
        · by_cases c4 : r.f1 > 1048576
          · refine Ev.step (fun k => ?_) hyes
            rw [signalbenchlaw23_I2cResumes.l0, hx, decide_eq_true c4]
            exact (if_pos hlt).trans ((if_pos p0).trans ((if_neg c1).trans ((if_neg c2).trans (if_neg c3))))
          · have es : sumT (pre ++ [r]) = sumT pre + r.f1 := by rw [sumT_append]; simp [sumT]
            have ih := res_l0 h hL post (pre ++ [r]) (by rw [hw]; simp) (fun y hy => by
              rcases List.mem_append.mp hy with hy | hy
              · exact hp y hy
              · rw [List.mem_singleton.mp hy]
                exact ⟨by omega, by omega, by omega⟩) (by rw [es, List.length_append, List.length_cons, List.length_nil]; push_cast; omega)
            have el : levV 0 (pre ++ [r]) = levV 0 pre ++ [(⟨1, sumT pre, sumT pre + r.f1, r.f0, 0, ⟨#[]⟩, 0⟩ : EvT)] := by
              rw [levV_append, Int.zero_add]
              rfl
            have ew : wrap64 (sumT pre + r.f1) = sumT (pre ++ [r]) := by rw [es, w64 (by omega) (by omega)]
            have ei : wrap64 ((pre.length : Int) + 1) = ((pre ++ [r]).length : Int) := by
              rw [w64 (by omega) (by omega)]
              simp
            have hq : (levV 0 pre).length < 2199023255552 := by
              rw [levV_len]
              omega
            have hj2 : Ev (fun k => signalbenchlaw23_I2cResumes.j2 k L l (outV c l) (sumT pre) (levV 0 pre) (pre.length : Int) false c) true := by
              refine Ev.step (fun k => ?_) ih
              rw [signalbenchlaw23_I2cResumes.j2, hx, level_eq, ew, ei]
              refine (if_neg Bool.false_ne_true).trans ((if_pos p0).trans ((if_pos hlt).trans ?_))
              rw [Option.bind_some]
              refine (if_pos hq).trans ?_
              dsimp only
              rw [el, es]
            refine Ev.step (fun k => ?_) hj2
            rw [signalbenchlaw23_I2cResumes.l0, hx, decide_eq_false c4]
            exact (if_pos hlt).trans ((if_pos p0).trans ((if_neg c1).trans ((if_neg c2).trans (if_neg c3))))
theorem I2cResumes_pure (c : Int) {r : List RunT} {l : List ItT} (hr : r.length ≤ 140737488355328) (hl : l.length ≤ 140737488355328) : ∃ k, signalbenchlaw23_I2cResumes.f k c r l = some true := by
  refine Ev.rounds ?_
  have hyes : ∀ x : List RunT, Ev (fun k => signalbenchlaw23_I2cResumes.j0 k r l x true c) true := fun x => Ev.step (fun k => by rw [signalbenchlaw23_I2cResumes.j0]; exact if_pos rfl) awake23_then
  have hb := Ev.bind (g := fun k => i2c_Encode.f k c l) (f := fun k (bt668 : List RunT × Int) => if bt668.2 = 0 then (signalbenchlaw23_I2cResumes.j0 k r l bt668.1 (decide ((r.length : Int) > 200)) c) else (signalbenchlaw23_I2cResumes.j0 k r l bt668.1 true c)) (a := encV c l) (r := true) (ev_from 3 (fun k => enc_at (T := c) l (k := k + 3) (by omega)))
  refine hb ?_
  by_cases h : (encV c l).2 = 0
  · refine Ev.congr (fun k => if_pos h) ?_
    by_cases h2 : (r.length : Int) > 200
    · rw [decide_eq_true h2]
      exact hyes _
    · rw [decide_eq_false h2, (enc_good h).2.1]
      have h0 := res_l0 h (L := r) (by omega) r [] rfl (fun x hx => absurd hx (by simp)) (by simp only [sumT, List.length_nil]; omega)
      refine Ev.step (fun k => ?_) h0
      rw [signalbenchlaw23_I2cResumes.j0]
      exact if_neg Bool.false_ne_true
  · exact Ev.congr (fun k => if_neg h) (hyes _)
end Go.Proofs.Ytdbpablakhfdcaa
