/- The law InjectUndoes as a plain statement on numbers and lists: with enough rounds it answers true; conditions: each number is one of its kind, no list or string is longer than its memory allows. -/
import Derived.Laws.BitsAllLaws
import Derived.WalkKit
import Derived.Test.YtkcekcnnjheamaaWMore
import Derived.Laws.Strings
import Derived.Test.YtkcekcnnjheamaaQx0
import Derived.Test.YtkcekcnnjheamaaQx2
import Derived.Test.YtkcekcnnjheamaaQx3
import Derived.Test.YtkcekcnnjheamaaQx4
import Derived.Test.YtkcekcnnjheamaaQx5
import Derived.Test.YtkcekcnnjheamaaQx6
import Derived.Test.YtkcekcnnjheamaaQx7
import Derived.Test.YtkcekcnnjheamaaQx8
import Derived.Test.YtkcekcnnjheamaaQx9
import Derived.Test.YtkcekcnnjheamaaQx12
import Derived.Test.YtkcekcnnjheamaaQx13
import Derived.Test.YtkcekcnnjheamaaQx14
import Derived.Test.YtkcekcnnjheamaaQx15
import Derived.Test.YtkcekcnnjheamaaQx16
import Derived.Test.YtkcekcnnjheamaaQx17
import Derived.Test.YtkcekcnnjheamaaQx18
namespace Go.Proofs.Ytkcekcnnjheamaa
open Go Go.RowKit Go.Proofs.YtkcekcnnjheamaaW.PrintWords Go.Proofs.YtkcekcnnjheamaaW.PrintLast Go.Proofs.Ytkcekcnnjheamaa.Q
set_option linter.unusedVariables false
theorem bt_range (s : ByteArray) (i : Int) : 0 ≤ bt s i ∧ bt s i ≤ 255 := by
  unfold bt
  split
  · rename_i h
    have := (s[i.toNat]'h).toNat_lt
    omega
  · omega
theorem data_length (s : ByteArray) : s.data.toList.length = s.size := by rw [Array.length_toList]; rfl
theorem w64 {x : Int} (h0 : -9223372036854775808 ≤ x) (h1 : x ≤ 9223372036854775807) : wrap64 x = x := by
 unfold wrap64
 omega
theorem wf64 {x : Int} (h : (Lit.int .i64 x).wf = true) : -9223372036854775808 ≤ x ∧ x ≤ 9223372036854775807 := by
 simp [Lit.wf, IntKind.min, IntKind.max, IntKind.bits, IntKind.signed] at h
 omega
theorem andNot1 {a : Int} (h : (Lit.int .i64 a).wf = true) : Go.bits .andNot .i64 a 1 = 0 ↔ a = 0 ∨ a = 1 := by
 have hw := wf64 h
 have e1 : Go.bits .andNot .i64 a 1 = IntKind.i64.wrap (((BitVec.ofInt 64 a &&& ~~~BitVec.ofInt 64 1).toNat : Nat) : Int) := rfl
 have e2 : (BitVec.ofInt 64 a &&& ~~~BitVec.ofInt 64 1).toNat = (BitVec.ofInt 64 a).toNat &&& 18446744073709551614 := by
  rw [BitVec.toNat_and]
  rfl
 have e3 : ((BitVec.ofInt 64 a).toNat : Int) = a % 18446744073709551616 := by
  rw [BitVec.toNat_ofInt]
  omega
 rw [e1, e2, nat_hi64_1, IntKind.wrap_i64]
 omega
theorem xor1_0 : Go.bits .xor .i64 0 1 = 1 := by decide
theorem xor1_1 : Go.bits .xor .i64 1 1 = 0 := by decide
theorem succ_mid {α : Type} (pre : List α) (x : α) (h : pre.length ≤ 9223372036854775806) : wrap64 ((pre.length : Int) + 1) = ((pre ++ [x]).length : Int) := by
 rw [w64 (by omega) (by omega)]
 simp
theorem mid_snoc {α : Type} (pre post : List α) (x : α) : pre ++ x :: post = (pre ++ [x]) ++ post := by simp
def sm : List S61 → Int
 | [] => 0
 | x :: l => x.f1 + sm l
def vldF (left : Int) : List S61 → Bool
 | [] => true
 | x :: l => if (x.f0 = 0 ∨ x.f0 = 1) ∧ 1 ≤ x.f1 ∧ x.f1 ≤ left then vldF (left - x.f1) l else false
def vld (l : List S61) : Bool := if l.length ≤ 262144 then vldF 1099511627776 l else false
def RunWf (x : S61) : Prop := (Lit.int .i64 x.f0).wf = true ∧ (Lit.int .i64 x.f1).wf = true
def RunsWf (l : List S61) : Prop := ∀ x ∈ l, RunWf x
def RunsOk (l : List S61) : Prop := ∀ x ∈ l, (x.f0 = 0 ∨ x.f0 = 1) ∧ 1 ≤ x.f1
theorem rd_mid (pre post : List S61) (x : S61) : rd_T61 (pre ++ x :: post) (pre.length : Int) = x := by simp [rd_T61, List.getD]
theorem mid_lt (pre post : List S61) (x : S61) : (pre.length : Int) < ((pre ++ x :: post).length : Int) := by
 simp only [List.length_append, List.length_cons]
 omega
theorem sm_nonneg : ∀ {l : List S61}, RunsOk l → 0 ≤ sm l
 | [], _ => Int.le_refl _
 | x :: l, h => by
  have h1 := h x (by simp)
  have h2 := sm_nonneg (l := l) (fun y hy => h y (by simp [hy]))
  simp only [sm]
  omega
theorem sm_append : ∀ (a b : List S61), sm (a ++ b) = sm a + sm b
 | [], b => by simp [sm]
 | x :: a, b => by
  have := sm_append a b
  simp only [List.cons_append, sm]
  omega
theorem vldF_iff : ∀ {l : List S61} {left : Int}, 0 ≤ left → (vldF left l = true ↔ RunsOk l ∧ sm l ≤ left)
 | [], left, h => by simp [vldF, RunsOk, sm, h]
 | x :: l, left, h => by
  unfold vldF
  by_cases c : (x.f0 = 0 ∨ x.f0 = 1) ∧ 1 ≤ x.f1 ∧ x.f1 ≤ left
  ·rw [if_pos c, vldF_iff (l := l) (by omega)]
   simp only [RunsOk, sm, List.mem_cons, forall_eq_or_imp]
   constructor
   ·rintro ⟨h1, h2⟩
    exact ⟨⟨⟨c.1, c.2.1⟩, h1⟩, by omega⟩
   ·rintro ⟨⟨h1, h2⟩, h3⟩
    exact ⟨h2, by omega⟩
  ·rw [if_neg c]
   simp only [Bool.false_eq_true, false_iff]
   rintro ⟨h1, h2⟩
   have h3 := h1 x (by simp)
   have h4 := sm_nonneg (l := l) (fun y hy => h1 y (by simp [hy]))
   simp only [sm] at h2
   exact c ⟨h3.1, h3.2, by omega⟩
theorem vld_iff {l : List S61} : vld l = true ↔ l.length ≤ 262144 ∧ RunsOk l ∧ sm l ≤ 1099511627776 := by
 unfold vld
 by_cases c : l.length ≤ 262144
 ·rw [if_pos c, vldF_iff (by omega)]
  simp [c]
 ·rw [if_neg c]
  simp [c]
theorem RunsOk.cons {x : S61} {l : List S61} (h : RunsOk (x :: l)) : ((x.f0 = 0 ∨ x.f0 = 1) ∧ 1 ≤ x.f1) ∧ RunsOk l := ⟨h x (by simp), fun y hy => h y (by simp [hy])⟩
theorem RunsOk.append {a b : List S61} (h : RunsOk a) (h' : RunsOk b) : RunsOk (a ++ b) := fun x hx => by
 rcases List.mem_append.1 hx with hx | hx
 ·exact h x hx
 ·exact h' x hx
theorem RunsOk.left {a b : List S61} (h : RunsOk (a ++ b)) : RunsOk a := fun x hx => h x (List.mem_append_left _ hx)
theorem RunsOk.right {a b : List S61} (h : RunsOk (a ++ b)) : RunsOk b := fun x hx => h x (List.mem_append_right _ hx)
theorem wave_Valid_l0 : ∀ (post pre : List S61) (left : Int), 0 ≤ left → left ≤ 1099511627776 → RunsWf post → (pre ++ post).length ≤ 140737488351232 →
  Ev (fun k => wave_Valid.l0 k left (pre ++ post) ((pre ++ post).length : Int) (pre.length : Int)) (vldF left post)
 | [], pre, left, h0, h1, hw, hl => by
  refine Ev.step (f := fun _ => some true) (fun k => ?_) (Ev.now _)
  simp only [wave_Valid.l0]
  rw [if_neg (by simp)]
 | x :: post, pre, left, h0, h1, hw, hl => by
  have hx := hw x (by simp)
  have hlt := mid_lt pre post x
  have hn : pre.length ≤ 9223372036854775806 := by
   simp only [List.length_append, List.length_cons] at hl
   omega
  by_cases c : (x.f0 = 0 ∨ x.f0 = 1) ∧ 1 ≤ x.f1 ∧ x.f1 ≤ left
  ·have ih := wave_Valid_l0 post (pre ++ [x]) (left - x.f1) (by omega) (by omega) (fun y hy => hw y (by simp [hy])) (by simpa using hl)
   rw [← mid_snoc] at ih
   rw [vldF, if_pos c]
   refine Ev.step (fun k => ?_) ih
   simp only [wave_Valid.l0]
   rw [rd_mid, if_pos hlt, if_pos (by omega), if_pos hlt, if_pos ((andNot1 hx.1).2 c.1), if_neg (by omega), if_neg (by omega), w64 (by omega) (by omega), succ_mid _ _ hn]
  ·rw [vldF, if_neg c]
   refine Ev.step (f := fun _ => some false) (fun k => ?_) (Ev.now _)
   simp only [wave_Valid.l0]
   rw [rd_mid, if_pos hlt, if_pos (by omega), if_pos hlt]
   by_cases c1 : x.f0 = 0 ∨ x.f0 = 1
   ·rw [if_pos ((andNot1 hx.1).2 c1)]
    by_cases c2 : x.f1 < 1
    ·rw [if_pos c2]
    ·rw [if_neg c2, if_pos (by
      have : ¬ (1 ≤ x.f1 ∧ x.f1 ≤ left) := fun h => c ⟨c1, h⟩
      omega)]
   ·rw [if_neg (fun h => c1 ((andNot1 hx.1).1 h))]
theorem wave_Valid_ev {l : List S61} (hw : RunsWf l) (hl : l.length ≤ 140737488351232) : Ev (fun k => wave_Valid.f k l) (vld l) := by
 unfold vld
 by_cases c : l.length ≤ 262144
 ·rw [if_pos c]
  refine Ev.congr (fun k => ?_) (wave_Valid_l0 l [] 1099511627776 (by omega) (by omega) hw (by simpa using hl))
  unfold wave_Valid.f
  rw [if_neg (by omega)]
  rfl
 ·rw [if_neg c]
  refine Ev.congr (fun k => ?_) (Ev.now _)
  unfold wave_Valid.f
  rw [if_pos (by omega)]
def atS : List S61 → Int → Int × Bool
 | [], _ => (-1, false)
 | x :: l, t => if t < x.f1 then (x.f0, true) else atS l (t - x.f1)
def longV (l : List S61) : Int := if vld l = true then sm l else 0
theorem wave_sum_l0 : ∀ (post pre : List S61) (s : Int), 0 ≤ s → s + sm post ≤ 4611686018427387904 → RunsOk post → (pre ++ post).length ≤ 140737488351232 →
  Ev (fun k => wave_sum.l0 k s (pre ++ post) ((pre ++ post).length : Int) (pre.length : Int)) (s + sm post)
 | [], pre, s, h0, h1, hw, hl => by
  refine Ev.step (f := fun _ => some s) (fun k => ?_) ?_
  ·simp only [wave_sum.l0]
   rw [if_neg (by simp)]
  ·simp only [sm, Int.add_zero]
   exact Ev.now _
 | x :: post, pre, s, h0, h1, hw, hl => by
  have hx := hw.cons
  have hs := sm_nonneg hx.2
  simp only [sm] at h1
  have hlt := mid_lt pre post x
  have hn : pre.length ≤ 9223372036854775806 := by
   simp only [List.length_append, List.length_cons] at hl
   omega
  have ih := wave_sum_l0 post (pre ++ [x]) (s + x.f1) (by omega) (by omega) hx.2 (by simpa using hl)
  rw [← mid_snoc] at ih
  have e1 : s + sm (x :: post) = s + x.f1 + sm post := by
   simp only [sm]
   omega
  rw [e1]
  refine Ev.step (fun k => ?_) ih
  simp only [wave_sum.l0]
  rw [rd_mid, if_pos hlt, if_pos (by omega), if_pos hlt, w64 (x := s + x.f1) (by omega) (by omega), succ_mid _ _ hn]
theorem wave_sum_ev {l : List S61} (hw : RunsOk l) (hs : sm l ≤ 4611686018427387904) (hl : l.length ≤ 140737488351232) : Ev (fun k => wave_sum.f k l) (sm l) := by
 have h := wave_sum_l0 l [] 0 (by omega) (by omega) hw (by simpa using hl)
 rw [Int.zero_add] at h
 exact Ev.congr (fun k => rfl) h
theorem wave_Long_ev {l : List S61} (hw : RunsWf l) (hl : l.length ≤ 140737488351232) : Ev (fun k => wave_Long.f k l) (longV l) := by
 unfold longV
 refine Ev.bind (wave_Valid_ev hw hl) ?_
 by_cases v : vld l = true
 ·simp only [if_pos v]
  have hv := vld_iff.1 v
  exact Ev.bind (wave_sum_ev hv.2.1 (by omega) hl) (Ev.now _)
 ·simp only [if_neg v]
  exact Ev.now _
def jnc (x : S61) : List S61 → List S61
 | [] => [x]
 | y :: l => if x.f0 = y.f0 then jnc ⟨x.f0, x.f1 + y.f1⟩ l else x :: jnc y l
def jn : List S61 → List S61
 | [] => []
 | x :: l => jnc x l
theorem last_at (o : List S61) (x : S61) (h : o.length ≤ 9223372036854775806) : wrap64 (((o ++ [x]).length : Int) - 1) = (o.length : Int) := by
 rw [w64 (by simp only [List.length_append, List.length_cons, List.length_nil]; omega) (by simp only [List.length_append, List.length_cons, List.length_nil]; omega)]
 simp
theorem rd_last (o : List S61) (x : S61) : rd_T61 (o ++ [x]) (o.length : Int) = x := rd_mid o [] x
theorem set_last (o : List S61) (x y : S61) : (o ++ [x]).set ((o.length : Int)).toNat y = o ++ [y] := by
 rw [Int.toNat_natCast, List.set_append_right _ _ (Nat.le_refl _), Nat.sub_self]
 rfl
/-- The clean wave. -/
def cleanV (l : List S61) : List S61 := if vld l = true then jn l else []
theorem jnc_sm : ∀ (l : List S61) (x : S61), sm (jnc x l) = x.f1 + sm l
 | [], x => rfl
 | y :: l, x => by
  unfold jnc
  split
  ·rw [jnc_sm l]
   simp only [sm]
   omega
  ·simp only [sm]
   rw [jnc_sm l y]
theorem jn_sm (l : List S61) : sm (jn l) = sm l := by
 cases l with
 | nil => rfl
 | cons x l => exact jnc_sm l x
theorem jnc_len : ∀ (l : List S61) (x : S61), (jnc x l).length ≤ l.length + 1
 | [], x => Nat.le_refl _
 | y :: l, x => by
  unfold jnc
  split
  ·have := jnc_len l ⟨x.f0, x.f1 + y.f1⟩
   simp only [List.length_cons]
   omega
  ·have := jnc_len l y
   simp only [List.length_cons]
   omega
theorem jn_len (l : List S61) : (jn l).length ≤ l.length := by
 cases l with
 | nil => exact Nat.le_refl _
 | cons x l => exact jnc_len l x
theorem jnc_ok : ∀ (l : List S61) (x : S61), RunsOk (x :: l) → RunsOk (jnc x l)
 | [], x, h => h
 | y :: l, x, h => by
  have hx := h.cons
  have hy := hx.2.cons
  unfold jnc
  split
  ·refine jnc_ok l _ (fun z hz => ?_)
   rcases List.mem_cons.1 hz with rfl | hz
   ·exact ⟨hx.1.1, by simp only; omega⟩
   ·exact hy.2 z hz
  ·intro z hz
   rcases List.mem_cons.1 hz with rfl | hz
   ·exact hx.1
   ·exact jnc_ok l y hx.2 z hz
theorem jn_ok {l : List S61} (h : RunsOk l) : RunsOk (jn l) := by
 cases l with
 | nil => exact h
 | cons x l => exact jnc_ok l x h
/-- No two runs of one level side by side: behind a run of level p. -/
def apartF : Int → List S61 → Prop
 | _, [] => True
 | p, x :: l => p ≠ x.f0 ∧ apartF x.f0 l
def apart : List S61 → Prop
 | [] => True
 | x :: l => apartF x.f0 l
theorem jnc_head : ∀ (l : List S61) (x : S61), ∃ t m, jnc x l = ⟨x.f0, t⟩ :: m
 | [], x => ⟨x.f1, [], rfl⟩
 | y :: l, x => by
  unfold jnc
  split
  ·exact jnc_head l ⟨x.f0, x.f1 + y.f1⟩
  ·exact ⟨x.f1, _, rfl⟩
theorem jnc_apart : ∀ (l : List S61) (x : S61), apart (jnc x l)
 | [], x => trivial
 | y :: l, x => by
  unfold jnc
  split
  ·exact jnc_apart l _
  ·rename_i c
   obtain ⟨t, m, e⟩ := jnc_head l y
   have h := jnc_apart l y
   rw [e] at h ⊢
   exact ⟨c, h⟩
theorem jn_apart (l : List S61) : apart (jn l) := by
 cases l with
 | nil => trivial
 | cons x l => exact jnc_apart l x
theorem jnc_of_apart : ∀ (l : List S61) (x : S61), apartF x.f0 l → jnc x l = x :: l
 | [], x, _ => rfl
 | y :: l, x, h => by
  unfold jnc
  rw [if_neg h.1, jnc_of_apart l y h.2]
theorem jn_of_apart {l : List S61} (h : apart l) : jn l = l := by
 cases l with
 | nil => rfl
 | cons x l => exact jnc_of_apart l x h
theorem jnc_at : ∀ (l : List S61) (x : S61) (t : Int), 0 ≤ x.f1 → RunsOk l → atS (jnc x l) t = atS (x :: l) t
 | [], x, t, _, _ => rfl
 | y :: l, x, t, h0, h => by
  have hy := h.cons
  unfold jnc
  split
  ·rename_i c
   rw [jnc_at l _ t (by simp only; omega) hy.2]
   simp only [atS]
   by_cases c1 : t < x.f1
   ·rw [if_pos c1, if_pos (by omega)]
   ·rw [if_neg c1]
    by_cases c2 : t - x.f1 < y.f1
    ·rw [if_pos c2, if_pos (by omega), c]
    ·rw [if_neg c2, if_neg (by omega)]
     congr 1
     omega
  ·simp only [atS]
   rw [jnc_at l y _ (by omega) hy.2]
   simp only [atS]
theorem jn_at {l : List S61} (h : RunsOk l) (t : Int) : atS (jn l) t = atS l t := by
 cases l with
 | nil => rfl
 | cons x l => exact jnc_at l x t (by have := h.cons; omega) h.cons.2
theorem rdi_mid (pre post : List Int) (x : Int) : rd (pre ++ x :: post) (pre.length : Int) = x := by simp [rd, List.getD]
theorem midi_lt (pre post : List Int) (x : Int) : (pre.length : Int) < ((pre ++ x :: post).length : Int) := by
 simp only [List.length_append, List.length_cons]
 omega
theorem xor1 {a : Int} (h : a = 0 ∨ a = 1) : Go.bits .xor .i64 a 1 = 1 - a := by
 rcases h with rfl | rfl
 ·exact xor1_0
 ·exact xor1_1
def slF (a b at_ : Int) : List S61 → List S61
 | [] => []
 | x :: l => if mx at_ a < mn (at_ + x.f1) b then ⟨x.f0, mn (at_ + x.f1) b - mx at_ a⟩ :: slF a b (at_ + x.f1) l else slF a b (at_ + x.f1) l
def sliceV (l : List S61) (a b : Int) : List S61 := if vld l = true then slF a b 0 l else []
theorem wave_Slice_l0 : ∀ (post pre : List S61) (a b at_ : Int) (out : List S61), b ≤ 9223372036854775807 → 0 ≤ at_ → at_ + sm post ≤ 1099511627776 → RunsOk post → (pre ++ post).length ≤ 262144 → out.length + post.length ≤ 262144 →
  Ev (fun k => wave_Slice.l0 k a b out at_ (pre ++ post) ((pre ++ post).length : Int) (pre.length : Int)) (out ++ slF a b at_ post)
 | [], pre, a, b, at_, out, hb, h0, h1, hw, hl, ho => by
  refine Ev.step (f := fun _ => some out) (fun k => ?_) (by rw [slF, List.append_nil]; exact Ev.now _)
  simp only [wave_Slice.l0]
  rw [if_neg (by simp)]
 | x :: post, pre, a, b, at_, out, hb, h0, h1, hw, hl, ho => by
  have hx := hw.cons
  have hs := sm_nonneg hx.2
  simp only [sm] at h1
  simp only [List.length_cons] at ho
  have hlt := mid_lt pre post x
  have hn : pre.length ≤ 9223372036854775806 := by
   simp only [List.length_append, List.length_cons] at hl
   omega
  have e1 := w64 (x := at_ + x.f1) (by omega) (by omega)
  by_cases c : mx at_ a < mn (at_ + x.f1) b
  ·have ih := wave_Slice_l0 post (pre ++ [x]) a b (at_ + x.f1) (out ++ [⟨x.f0, mn (at_ + x.f1) b - mx at_ a⟩]) hb (by omega) (by omega) hx.2 (by simpa using hl) (by simp only [List.length_append, List.length_cons, List.length_nil]; omega)
   rw [← mid_snoc pre post x] at ih
   rw [slF, if_pos c, mid_snoc out (slF a b (at_ + x.f1) post) ⟨x.f0, mn (at_ + x.f1) b - mx at_ a⟩]
   have e2 : wrap64 (mn (at_ + x.f1) b - mx at_ a) = mn (at_ + x.f1) b - mx at_ a := by
    unfold mx mn at c ⊢
    exact w64 (by split <;> split <;> omega) (by split <;> split <;> omega)
   refine Ev.step (fun k => ?_) ih
   simp only [wave_Slice.l0]
   rw [rd_mid, if_pos hlt, if_pos (by omega), if_pos hlt, e1, if_pos c, if_pos (by omega), e2, succ_mid pre x hn]
  ·have ih := wave_Slice_l0 post (pre ++ [x]) a b (at_ + x.f1) out hb (by omega) (by omega) hx.2 (by simpa using hl) (by omega)
   rw [← mid_snoc pre post x] at ih
   rw [slF, if_neg c]
   refine Ev.step (fun k => ?_) ih
   simp only [wave_Slice.l0]
   rw [rd_mid, if_pos hlt, if_pos (by omega), if_pos hlt, e1, if_neg c, succ_mid pre x hn]
theorem wave_Slice_ev {l : List S61} {a b : Int} (hw : RunsWf l) (hl : l.length ≤ 140737488351232) (hb : b ≤ 9223372036854775807) : Ev (fun k => wave_Slice.f k l a b) (sliceV l a b) := by
 unfold sliceV
 refine Ev.bind (wave_Valid_ev hw hl) ?_
 by_cases v : vld l = true
 ·simp only [if_pos v]
  have hv := vld_iff.1 v
  exact wave_Slice_l0 l [] a b 0 [] hb (by omega) (by omega) hv.2.1 (by simpa using hv.1) (by simpa using hv.1)
 ·simp only [if_neg v]
  exact Ev.now _
def invR (x : S61) : S61 := ⟨1 - x.f0, x.f1⟩
def invV (l : List S61) : List S61 := if vld l = true then l.map invR else []
theorem set_mid (pre post : List S61) (x y : S61) : (pre ++ x :: post).set ((pre.length : Int)).toNat y = pre ++ y :: post := by
 rw [Int.toNat_natCast, List.set_append_right _ _ (Nat.le_refl _), Nat.sub_self]
 rfl
theorem wave_Invert_l0 : ∀ (post pre : List S61) (n : Int), RunsOk post → (pre ++ post).length ≤ 262144 → n = ((pre ++ post).length : Int) →
  Ev (fun k => wave_Invert.l0 k (pre ++ post) n (pre.length : Int)) (pre ++ post.map invR)
 | [], pre, n, hw, hl, hn => by
  refine Ev.step (f := fun _ => some (pre ++ [])) (fun k => ?_) (Ev.now _)
  simp only [wave_Invert.l0]
  rw [if_neg (by rw [hn]; simp)]
 | x :: post, pre, n, hw, hl, hn => by
  have hx := hw.cons
  have hlt := mid_lt pre post x
  have hb : pre.length ≤ 9223372036854775806 := by
   simp only [List.length_append, List.length_cons] at hl
   omega
  have ih := wave_Invert_l0 post (pre ++ [invR x]) n hx.2 (by simpa using hl) (by rw [hn]; simp)
  rw [← mid_snoc pre post (invR x)] at ih
  rw [List.map_cons, mid_snoc pre (post.map invR) (invR x)]
  refine Ev.step (fun k => ?_) ih
  simp only [wave_Invert.l0]
  rw [rd_mid, if_pos (by rw [hn]; exact hlt), if_pos (by omega), if_pos hlt, set_mid, xor1 hx.1.1, succ_mid pre (invR x) hb]
  rfl
theorem copy_all (n : Nat) (z : S61) (l : List S61) (h : n = l.length) : Kd.copyL (List.replicate n z) l = l := by
 unfold Kd.copyL
 rw [List.length_replicate, h, List.take_length, List.drop_of_length_le (by simp), List.append_nil]
theorem wave_Invert_ev {l : List S61} (hw : RunsWf l) (hl : l.length ≤ 140737488351232) : Ev (fun k => wave_Invert.f k l) (invV l) := by
 unfold invV
 refine Ev.bind (wave_Valid_ev hw hl) ?_
 by_cases v : vld l = true
 ·simp only [if_pos v]
  have hv := vld_iff.1 v
  have e : ((l.length : Int)).toNat = l.length := Int.toNat_natCast _
  have h := wave_Invert_l0 l [] (l.length : Int) hv.2.1 (by simpa using hv.1) (by simp)
  refine Ev.congr (fun k => ?_) h
  rw [if_pos (by omega), if_pos (by omega)]
  simp only [Option.bind_some]
  rw [if_pos (by rw [List.length_replicate, e]; omega), copy_all _ _ _ e]
  rfl
 ·simp only [if_neg v]
  exact Ev.now _
theorem rdl_mid (pre post : List (List S61)) (x : List S61) : rd_L4 (pre ++ x :: post) (pre.length : Int) = x := by simp [rd_L4, List.getD]
theorem midl_lt (pre post : List (List S61)) (x : List S61) : (pre.length : Int) < ((pre ++ x :: post).length : Int) := by
 simp only [List.length_append, List.length_cons]
 omega
theorem slF_len : ∀ (l : List S61) (a b at_ : Int), (slF a b at_ l).length ≤ l.length
 | [], a, b, at_ => Nat.le_refl _
 | x :: l, a, b, at_ => by
  have := slF_len l a b (at_ + x.f1)
  unfold slF
  split <;> simp only [List.length_cons] <;> omega
theorem RunsOk.wf {l : List S61} (h : RunsOk l) (hs : sm l ≤ 1099511627776) : RunsWf l := by
 intro x hx
 have h1 := h x hx
 have h2 : x.f1 ≤ sm l := by
  clear h1 hs
  induction l with
  | nil => simp at hx
  | cons y l ih =>
   have hy := h.cons
   have hn := sm_nonneg hy.2
   simp only [sm]
   rcases List.mem_cons.1 hx with rfl | hx
   ·omega
   ·have := ih hy.2 hx
    omega
 have wf : ∀ n : Int, 0 ≤ n → n ≤ 1099511627776 → (Lit.int .i64 n).wf = true := fun n h0 h1 => by
  simp [Lit.wf, IntKind.min, IntKind.max, IntKind.bits, IntKind.signed]
  omega
 exact ⟨wf _ (by omega) (by omega), wf _ (by omega) (by omega)⟩
theorem vld_wf {l : List S61} (v : vld l = true) : RunsWf l := (vld_iff.1 v).2.1.wf (vld_iff.1 v).2.2
theorem inv_sm : ∀ (l : List S61), sm (l.map invR) = sm l
 | [] => rfl
 | x :: l => by
  simp only [List.map_cons, sm, inv_sm l]
  rfl
theorem inv_at : ∀ (l : List S61) (t : Int), atS (l.map invR) t = if (atS l t).2 = true then (1 - (atS l t).1, true) else (-1, false)
 | [], t => by simp [atS]
 | x :: l, t => by
  have e : (invR x).f1 = x.f1 := rfl
  by_cases c : t < x.f1
  ·have e1 : atS (x :: l) t = (x.f0, true) := by rw [atS, if_pos c]
   have e2 : atS ((x :: l).map invR) t = (1 - x.f0, true) := by
    rw [List.map_cons, atS, e, if_pos c]
    rfl
   rw [e1, e2]
   rfl
  ·have e1 : atS (x :: l) t = atS l (t - x.f1) := by rw [atS, if_neg c]
   have e2 : atS ((x :: l).map invR) t = atS (l.map invR) (t - x.f1) := by rw [List.map_cons, atS, e, if_neg c]
   rw [e1, e2]
   exact inv_at l _
theorem slF_ok : ∀ {l : List S61} {a b at_ : Int}, RunsOk l → RunsOk (slF a b at_ l)
 | [], a, b, at_, h => h
 | x :: l, a, b, at_, h => by
  have ih := slF_ok (l := l) (a := a) (b := b) (at_ := at_ + x.f1) h.cons.2
  unfold slF
  split
  ·intro y hy
   rcases List.mem_cons.1 hy with rfl | hy
   ·exact ⟨h.cons.1.1, by simp only; omega⟩
   ·exact ih y hy
  ·exact ih
def wd (c : Int) : Bool := if 97 ≤ c ∧ c ≤ 122 then true else if 48 ≤ c ∧ c ≤ 57 then true else if c = 95 then true else false
def wAll (s : ByteArray) : Nat → Nat → Bool
 | 0, _ => true
 | m + 1, i => if wd (bt s (i : Int)) = true then wAll s m (i + 1) else false
def nmOk (s : ByteArray) : Bool := if s.size = 0 then false else if 16 < s.size then false else if 97 ≤ bt s 0 ∧ bt s 0 ≤ 122 then wAll s s.size 0 else false
theorem w32 {x : Int} (h0 : 0 ≤ x) (h1 : x ≤ 255) : wrap32 x = x := by
 unfold wrap32
 omega
theorem nil_iff (s : ByteArray) : s.toList = ([] : List UInt8) ↔ s.size = 0 := by
 rw [ByteArray.toList_eq, ← List.length_eq_zero_iff, data_length]
theorem lex_letter_eq (c : Int) : lex_letter.f c = some (decide (97 ≤ c ∧ c ≤ 122)) := by
 unfold lex_letter.f
 by_cases h : 97 ≤ c <;> simp [h]
theorem lex_word_eq (c : Int) : lex_word.f c = some (wd c) := by
 unfold lex_word.f lex_digit.f wd
 rw [lex_letter_eq]
 by_cases h : 97 ≤ c ∧ c ≤ 122
 ·simp [h]
 ·by_cases h1 : 48 ≤ c
  ·by_cases h2 : c ≤ 57
   ·simp [h, h1, h2]
   ·by_cases h3 : c = 95 <;> simp [h, h1, h2, h3]
  ·by_cases h3 : c = 95 <;> simp [h, h1, h3]
theorem lex_Name_l0 (s : ByteArray) (hs : s.size ≤ 140737488351232) : ∀ (m i : Nat), i + m = s.size → Ev (fun k => lex_Name.l0 k s (s.size : Int) (i : Int)) (wAll s m i)
 | 0, i, h => by
  refine Ev.step (f := fun _ => some true) (fun k => ?_) (Ev.now _)
  simp only [lex_Name.l0]
  rw [if_neg (by omega)]
 | m + 1, i, h => by
  have hb := bt_range s (i : Int)
  have hst : ∀ k, lex_Name.l0 (k + 1) s (s.size : Int) (i : Int) = if wd (bt s (i : Int)) = true then lex_Name.l0 k s (s.size : Int) ((i + 1 : Nat) : Int) else some false := by
   intro k
   simp only [lex_Name.l0]
   rw [if_pos (by omega), if_pos (by omega), if_pos (by omega), lex_word_eq, w32 hb.1 hb.2, Option.bind_some, w64 (by omega) (by omega)]
   rfl
  unfold wAll
  by_cases c : wd (bt s (i : Int)) = true
  ·rw [if_pos c]
   exact Ev.step (fun k => (hst k).trans (if_pos c)) (lex_Name_l0 s hs m (i + 1) (by omega))
  ·rw [if_neg c]
   exact Ev.step (fun k => (hst k).trans (if_neg c)) (Ev.now _)
theorem lex_Name_ev (s : ByteArray) (hs : s.size ≤ 140737488351232) : Ev (fun k => lex_Name.f k s) (nmOk s) := by
 have hb := bt_range s 0
 have hj : Ev (fun k => lex_Name.j0 k s true) false := Ev.step (f := fun _ => some false) (fun k => by simp only [lex_Name.j0]; rfl) (Ev.now _)
 unfold nmOk
 by_cases h0 : s.size = 0
 ·rw [if_pos h0]
  refine Ev.congr (fun k => ?_) hj
  unfold lex_Name.f
  rw [if_pos ((nil_iff s).2 h0)]
 ·rw [if_neg h0]
  have hn : ¬ s.toList = [] := fun h => h0 ((nil_iff s).1 h)
  by_cases h1 : 16 < s.size
  ·rw [if_pos h1]
   refine Ev.congr (fun k => ?_) hj
   unfold lex_Name.f
   rw [if_neg hn, if_pos (by omega)]
  ·rw [if_neg h1]
   have e : ∀ k, lex_Name.f k s = lex_Name.j0 k s (!(decide (97 ≤ bt s 0 ∧ bt s 0 ≤ 122))) := by
    intro k
    unfold lex_Name.f
    rw [if_neg hn, if_neg (by omega), if_pos (by omega), lex_letter_eq, w32 hb.1 hb.2]
    rfl
   refine Ev.congr e ?_
   by_cases h2 : 97 ≤ bt s 0 ∧ bt s 0 ≤ 122
   ·rw [if_pos h2, decide_eq_true h2]
    refine Ev.step (fun k => ?_) (lex_Name_l0 s hs s.size 0 (by omega))
    simp only [lex_Name.j0]
    rw [if_neg (by decide)]
    rfl
   ·rw [if_neg h2, decide_eq_false h2]
    exact hj
def StrsOk (l : List ByteArray) : Prop := ∀ s ∈ l, s.size ≤ 140737488351232
def nmA : List ByteArray → Bool
 | [] => true
 | s :: l => if nmOk s = true then nmA l else false
theorem rds_mid (pre post : List ByteArray) (x : ByteArray) : rdOf ByteArray.empty (pre ++ x :: post) (pre.length : Int) = x := by simp [rdOf, List.getD]
theorem mids_lt (pre post : List ByteArray) (x : ByteArray) : (pre.length : Int) < ((pre ++ x :: post).length : Int) := by
 simp only [List.length_append, List.length_cons]
 omega
/-- The first place of a name, or -1. -/
def ixS (s : ByteArray) : Nat → List ByteArray → Int
 | _, [] => -1
 | n, t :: l => if s.toList = t.toList then (n : Int) else ixS s (n + 1) l
theorem ixS_ge : ∀ (s : ByteArray) (l : List ByteArray) (n : Nat), ixS s n l = -1 ∨ (n : Int) ≤ ixS s n l ∧ ixS s n l < ((n + l.length : Nat) : Int)
 | s, [], n => .inl rfl
 | s, t :: l, n => by
  unfold ixS
  by_cases c : s.toList = t.toList
  ·rw [if_pos c]
   right
   simp only [List.length_cons]
   omega
  ·rw [if_neg c]
   have := ixS_ge s l (n + 1)
   simp only [List.length_cons]
   omega
theorem Index_l0 (s : ByteArray) : ∀ (post pre : List ByteArray), (pre ++ post).length ≤ 140737488351232 →
  Ev (fun k => slices_Index_string.l0 k (pre ++ post) s ((pre ++ post).length : Int) (pre.length : Int)) (ixS s pre.length post)
 | [], pre, hl => by
  refine Ev.step (f := fun _ => some (-1)) (fun k => ?_) (Ev.now _)
  simp only [slices_Index_string.l0]
  rw [if_neg (by simp)]
 | x :: post, pre, hl => by
  have hlt := mids_lt pre post x
  have hn : pre.length ≤ 9223372036854775806 := by
   simp only [List.length_append, List.length_cons] at hl
   omega
  have hst : ∀ k, slices_Index_string.l0 (k + 1) (pre ++ x :: post) s ((pre ++ x :: post).length : Int) (pre.length : Int) = if s.toList = x.toList then some (pre.length : Int) else slices_Index_string.l0 k (pre ++ x :: post) s ((pre ++ x :: post).length : Int) ((pre ++ [x]).length : Int) := by
   intro k
   simp only [slices_Index_string.l0]
   rw [rds_mid, if_pos hlt, if_pos (by omega), if_pos hlt, succ_mid _ _ hn]
  unfold ixS
  by_cases c : s.toList = x.toList
  ·rw [if_pos c]
   exact Ev.step (fun k => (hst k).trans (if_pos c)) (Ev.now _)
  ·rw [if_neg c]
   have ih := Index_l0 s post (pre ++ [x]) (by simpa using hl)
   rw [← mid_snoc] at ih
   have e : (pre ++ [x]).length = pre.length + 1 := by simp
   rw [e] at ih
   refine Ev.step (fun k => (hst k).trans (if_neg c)) ?_
   rw [e]
   exact ih
theorem Index_ev (l : List ByteArray) (s : ByteArray) (hl : l.length ≤ 140737488351232) : Ev (fun k => slices_Index_string.f k l s) (ixS s 0 l) := Ev.congr (fun k => rfl) (Index_l0 s l [] (by simpa using hl))
theorem Contains_ev (l : List ByteArray) (s : ByteArray) (hl : l.length ≤ 140737488351232) : Ev (fun k => slices_Contains_string.f k l s) (decide (ixS s 0 l ≥ 0)) := Ev.bind (Index_ev l s hl) (Ev.now _)
def dupS : List ByteArray → List ByteArray → Bool
 | _, [] => false
 | pre, x :: post => if ixS x 0 pre ≥ 0 then true else dupS (pre ++ [x]) post
def nmsV (l : List ByteArray) : Int := if 16 < l.length then 6 else if l.length = 0 then 1 else if nmA l = true then (if dupS [] l = true then 9 else 0) else 4
theorem checkNames_l1 : ∀ (post pre : List ByteArray), (pre ++ post).length ≤ 140737488351232 →
  Ev (fun k => capture_checkNames.l1 k (pre ++ post) (pre ++ post) ((pre ++ post).length : Int) (pre.length : Int)) (if dupS pre post = true then 9 else 0)
 | [], pre, hl => by
  refine Ev.step (f := fun _ => some 0) (fun k => ?_) ?_
  ·simp only [capture_checkNames.l1]
   rw [if_neg (by simp)]
  ·rw [show (if dupS pre [] = true then (9 : Int) else 0) = 0 from rfl]
   exact Ev.now _
 | x :: post, pre, hl => by
  have hlt := mids_lt pre post x
  have hn : pre.length ≤ 9223372036854775806 := by
   simp only [List.length_append, List.length_cons] at hl
   omega
  have hp : pre.length ≤ 140737488351232 := by
   simp only [List.length_append, List.length_cons] at hl
   omega
  have hst : ∀ k, capture_checkNames.l1 (k + 1) (pre ++ x :: post) (pre ++ x :: post) ((pre ++ x :: post).length : Int) (pre.length : Int) = (slices_Contains_string.f k pre x).bind fun t111 => (if t111 = true then (some 9) else (capture_checkNames.l1 k (pre ++ x :: post) (pre ++ x :: post) ((pre ++ x :: post).length : Int) ((pre ++ [x]).length : Int))) := by
   intro k
   simp only [capture_checkNames.l1]
   rw [rds_mid, if_pos hlt, if_pos (by omega), if_pos hlt, if_pos (by omega), succ_mid _ _ hn, Int.toNat_natCast, List.take_left' rfl]
  refine Ev.step hst (Ev.bind (Contains_ev pre x hp) ?_)
  unfold dupS
  by_cases c : ixS x 0 pre ≥ 0
  ·rw [if_pos c, decide_eq_true c]
   exact Ev.congr (fun k => if_pos rfl) (Ev.now _)
  ·rw [if_neg c, decide_eq_false c]
   have ih := checkNames_l1 post (pre ++ [x]) (by simpa using hl)
   rw [← mid_snoc] at ih
   exact Ev.congr (fun k => if_neg (by decide)) ih
theorem checkNames_l0 : ∀ (post pre : List ByteArray) (R : Int), StrsOk post → (pre ++ post).length ≤ 140737488351232 → Ev (fun k => capture_checkNames.l1 k (pre ++ post) (pre ++ post) ((pre ++ post).length : Int) 0) R →
  Ev (fun k => capture_checkNames.l0 k (pre ++ post) (pre ++ post) ((pre ++ post).length : Int) (pre.length : Int)) (if nmA post = true then R else 4)
 | [], pre, R, hs, hl, hR => by
  refine Ev.step (fun k => ?_) (Ev.congr (fun k => rfl) hR)
  simp only [capture_checkNames.l0]
  rw [if_neg (by simp)]
 | x :: post, pre, R, hs, hl, hR => by
  have hlt := mids_lt pre post x
  have hn : pre.length ≤ 9223372036854775806 := by
   simp only [List.length_append, List.length_cons] at hl
   omega
  have hst : ∀ k, capture_checkNames.l0 (k + 1) (pre ++ x :: post) (pre ++ x :: post) ((pre ++ x :: post).length : Int) (pre.length : Int) = (lex_Name.f k x).bind fun t108 => (if t108 = true then (capture_checkNames.l0 k (pre ++ x :: post) (pre ++ x :: post) ((pre ++ x :: post).length : Int) ((pre ++ [x]).length : Int)) else (some 4)) := by
   intro k
   simp only [capture_checkNames.l0]
   rw [rds_mid, if_pos hlt, if_pos (by omega), if_pos hlt, succ_mid _ _ hn]
  refine Ev.step hst (Ev.bind (lex_Name_ev x (hs x (by simp))) ?_)
  unfold nmA
  by_cases c : nmOk x = true
  ·rw [if_pos c, c]
   have ih := checkNames_l0 post (pre ++ [x]) R (fun y hy => hs y (by simp [hy])) (by simpa using hl) (by rw [← mid_snoc]; exact hR)
   rw [← mid_snoc] at ih
   exact Ev.congr (fun k => if_pos rfl) ih
  ·rw [if_neg c, Bool.eq_false_iff.2 c]
   exact Ev.congr (fun k => if_neg (by decide)) (Ev.now _)
theorem checkNames_ev {l : List ByteArray} (hs : StrsOk l) (hl : l.length ≤ 140737488351232) (h16 : l.length ≤ 16) : Ev (fun k => capture_checkNames.f k l) (nmsV l) := by
 unfold nmsV
 rw [if_neg (by omega)]
 by_cases c : l.length = 0
 ·rw [if_pos c]
  refine Ev.congr (fun k => ?_) (Ev.now _)
  unfold capture_checkNames.f
  rw [if_pos (by omega)]
 ·rw [if_neg c]
  refine Ev.congr (fun k => ?_) (checkNames_l0 l [] _ hs (by simpa using hl) (checkNames_l1 l [] (by simpa using hl)))
  unfold capture_checkNames.f
  rw [if_neg (by omega)]
  rfl
/-- Levels from 0 to m, and at least one tick each. -/
def RunsM (m : Int) (l : List S61) : Prop := ∀ x ∈ l, 0 ≤ x.f0 ∧ x.f0 ≤ m ∧ 1 ≤ x.f1
def rOk (m : Int) : Int → List S61 → Bool
 | left, [] => true
 | left, x :: l => if 0 ≤ x.f0 ∧ x.f0 ≤ m ∧ 1 ≤ x.f1 ∧ x.f1 ≤ left then rOk m (left - x.f1) l else false
theorem RunsM.cons {m : Int} {x : S61} {l : List S61} (h : RunsM m (x :: l)) : (0 ≤ x.f0 ∧ x.f0 ≤ m ∧ 1 ≤ x.f1) ∧ RunsM m l := ⟨h x (by simp), fun y hy => h y (by simp [hy])⟩
theorem smM_nonneg {m : Int} : ∀ {l : List S61}, RunsM m l → 0 ≤ sm l
 | [], _ => Int.le_refl _
 | x :: l, h => by
  have h1 := h.cons
  have h2 := smM_nonneg h1.2
  simp only [sm]
  omega
theorem rOk_iff {m : Int} : ∀ {l : List S61} {left : Int}, 0 ≤ left → (rOk m left l = true ↔ RunsM m l ∧ sm l ≤ left)
 | [], left, h => by simp [rOk, RunsM, sm, h]
 | x :: l, left, h => by
  unfold rOk
  by_cases c : 0 ≤ x.f0 ∧ x.f0 ≤ m ∧ 1 ≤ x.f1 ∧ x.f1 ≤ left
  ·rw [if_pos c, rOk_iff (l := l) (by omega)]
   simp only [RunsM, sm, List.mem_cons, forall_eq_or_imp]
   constructor
   ·rintro ⟨h1, h2⟩
    exact ⟨⟨⟨c.1, c.2.1, c.2.2.1⟩, h1⟩, by omega⟩
   ·rintro ⟨⟨h1, h2⟩, h3⟩
    exact ⟨h2, by omega⟩
  ·rw [if_neg c]
   simp only [Bool.false_eq_true, false_iff]
   rintro ⟨h1, h2⟩
   have h3 := h1.cons
   have h4 := smM_nonneg h3.2
   simp only [sm] at h2
   exact c ⟨h3.1.1, h3.1.2.1, h3.1.2.2, by omega⟩
def mk (l : List ByteArray) : Int := wrap64 ((shl .i64 1 (l.length : Int)) - 1)
def chkV (l : List ByteArray) (r : List S61) : Int := if 262144 < r.length then 6 else if nmsV l = 0 then (if rOk (mk l) 1099511627776 r = true then 0 else 2) else nmsV l
theorem chk_0 {l : List ByteArray} {r : List S61} (h : chkV l r = 0) : r.length ≤ 262144 ∧ nmsV l = 0 ∧ RunsM (mk l) r ∧ sm r ≤ 1099511627776 := by
 unfold chkV at h
 by_cases c : 262144 < r.length
 ·rw [if_pos c] at h
  omega
 ·rw [if_neg c] at h
  by_cases c1 : nmsV l = 0
  ·rw [if_pos c1] at h
   by_cases c2 : rOk (mk l) 1099511627776 r = true
   ·exact ⟨by omega, c1, (rOk_iff (by omega)).1 c2⟩
   ·rw [if_neg c2] at h
    omega
  ·rw [if_neg c1] at h
   exact absurd h c1
theorem Check_l0 (m : Int) : ∀ (post pre : List S61) (left : Int), 0 ≤ left → left ≤ 1099511627776 → (pre ++ post).length ≤ 140737488351232 →
  Ev (fun k => capture_Check.l0 k m left (pre ++ post) ((pre ++ post).length : Int) (pre.length : Int)) (if rOk m left post = true then 0 else 2)
 | [], pre, left, h0, h1, hl => by
  rw [show (if rOk m left [] = true then (0 : Int) else 2) = 0 from rfl]
  refine Ev.step (f := fun _ => some 0) (fun k => ?_) (Ev.now _)
  simp only [capture_Check.l0]
  rw [if_neg (by simp)]
 | x :: post, pre, left, h0, h1, hl => by
  have hlt := mid_lt pre post x
  have hn : pre.length ≤ 9223372036854775806 := by
   simp only [List.length_append, List.length_cons] at hl
   omega
  unfold rOk
  by_cases c : 0 ≤ x.f0 ∧ x.f0 ≤ m ∧ 1 ≤ x.f1 ∧ x.f1 ≤ left
  ·have ih := Check_l0 m post (pre ++ [x]) (left - x.f1) (by omega) (by omega) (by simpa using hl)
   rw [← mid_snoc] at ih
   rw [if_pos c]
   refine Ev.step (fun k => ?_) ih
   simp only [capture_Check.l0]
   rw [rd_mid, if_pos hlt, if_pos (by omega), if_pos hlt, if_neg (by omega), if_neg (by omega), if_neg (by omega), if_neg (by omega), w64 (by omega) (by omega), succ_mid _ _ hn]
  ·rw [if_neg c, show (if false = true then (0 : Int) else 2) = 2 from rfl]
   refine Ev.step (f := fun _ => some 2) (fun k => ?_) (Ev.now _)
   simp only [capture_Check.l0]
   rw [rd_mid, if_pos hlt, if_pos (by omega), if_pos hlt]
   by_cases c1 : x.f0 < 0
   ·rw [if_pos c1]
   ·rw [if_neg c1]
    by_cases c2 : x.f0 > m
    ·rw [if_pos c2]
    ·rw [if_neg c2]
     by_cases c3 : x.f1 < 1
     ·rw [if_pos c3]
     ·rw [if_neg c3, if_pos (by omega)]
theorem Check_ev {l : List ByteArray} {r : List S61} (hs : StrsOk l) (hl : l.length ≤ 140737488351232) (hr : r.length ≤ 140737488351232) : Ev (fun k => capture_Check.f k l r) (chkV l r) := by
 have hj : Ev (fun k => capture_Check.j0 k true l r) 6 := Ev.step (f := fun _ => some 6) (fun k => by simp only [capture_Check.j0]; rfl) (Ev.now _)
 by_cases c : 16 < l.length
 ·have e : chkV l r = 6 := by
   have e1 : nmsV l = 6 := by
    unfold nmsV
    rw [if_pos c]
   unfold chkV
   rw [e1]
   by_cases c1 : 262144 < r.length
   ·rw [if_pos c1]
   ·rw [if_neg c1]
    rfl
  rw [e]
  refine Ev.congr (fun k => ?_) hj
  unfold capture_Check.f
  rw [if_pos (by omega)]
 ·have e : ∀ k, capture_Check.f k l r = capture_Check.j0 k (decide ((r.length : Int) > 262144)) l r := by
   intro k
   unfold capture_Check.f
   rw [if_neg (by omega)]
  refine Ev.congr e ?_
  unfold chkV
  by_cases c1 : 262144 < r.length
  ·rw [if_pos c1, decide_eq_true (by omega)]
   exact hj
  ·rw [if_neg c1, decide_eq_false (by omega)]
   refine Ev.step (f := fun k => (capture_checkNames.f k l).bind fun t113 => (if t113 = 0 then (capture_Check.l0 k (mk l) 1099511627776 r (r.length : Int) 0) else (some t113))) (fun k => ?_) (Ev.bind (checkNames_ev hs hl (by omega)) ?_)
   ·simp only [capture_Check.j0]
    rw [if_neg (by decide)]
    rfl
   ·by_cases c2 : nmsV l = 0
    ·rw [if_pos c2]
     exact Ev.congr (fun k => if_pos c2) (Check_l0 (mk l) r [] 1099511627776 (by omega) (by omega) (by simpa using hr))
    ·rw [if_neg c2]
     exact Ev.congr (fun k => if_neg c2) (Ev.now _)
theorem long_l0 {m : Int} : ∀ (post pre : List S61) (s : Int), 0 ≤ s → s + sm post ≤ 4611686018427387904 → RunsM m post → (pre ++ post).length ≤ 140737488351232 →
  Ev (fun k => capture_long.l0 k s (pre ++ post) ((pre ++ post).length : Int) (pre.length : Int)) (s + sm post)
 | [], pre, s, h0, h1, hw, hl => by
  refine Ev.step (f := fun _ => some s) (fun k => ?_) ?_
  ·simp only [capture_long.l0]
   rw [if_neg (by simp)]
  ·simp only [sm, Int.add_zero]
   exact Ev.now _
 | x :: post, pre, s, h0, h1, hw, hl => by
  have hx := hw.cons
  have hs := smM_nonneg hx.2
  simp only [sm] at h1
  have hlt := mid_lt pre post x
  have hn : pre.length ≤ 9223372036854775806 := by
   simp only [List.length_append, List.length_cons] at hl
   omega
  have ih := long_l0 post (pre ++ [x]) (s + x.f1) (by omega) (by omega) hx.2 (by simpa using hl)
  rw [← mid_snoc] at ih
  have e1 : s + sm (x :: post) = s + x.f1 + sm post := by
   simp only [sm]
   omega
  rw [e1]
  refine Ev.step (fun k => ?_) ih
  simp only [capture_long.l0]
  rw [rd_mid, if_pos hlt, if_pos (by omega), if_pos hlt, w64 (x := s + x.f1) (by omega) (by omega), succ_mid _ _ hn]
theorem long_ev {m : Int} {r : List S61} (h : RunsM m r) (hs : sm r ≤ 1099511627776) (hr : r.length ≤ 140737488351232) : Ev (fun k => capture_long.f k r) (sm r) := by
 have h := long_l0 r [] 0 (by omega) (by omega) h (by simpa using hr)
 rw [Int.zero_add] at h
 exact Ev.congr (fun k => rfl) h
def longC (l : List ByteArray) (r : List S61) : Int := if chkV l r = 0 then sm r else 0
theorem Long_ev {l : List ByteArray} {r : List S61} (hs : StrsOk l) (hl : l.length ≤ 140737488351232) (hr : r.length ≤ 140737488351232) : Ev (fun k => capture_Long.f k l r) (longC l r) := by
 unfold longC
 refine Ev.bind (Check_ev hs hl hr) ?_
 by_cases c : chkV l r = 0
 ·have h := chk_0 c
  rw [if_pos c]
  exact Ev.congr (fun k => if_pos c) (Ev.bind (long_ev h.2.2.1 h.2.2.2 hr) (Ev.now _))
 ·rw [if_neg c]
  exact Ev.congr (fun k => if_neg c) (Ev.now _)
theorem atS_out {m : Int} : ∀ {l : List S61} {t : Int}, RunsM m l → sm l ≤ t → atS l t = (-1, false)
 | [], t, h, ht => rfl
 | x :: l, t, h, ht => by
  have hx := h.cons
  have h2 := smM_nonneg hx.2
  simp only [sm] at ht
  unfold atS
  rw [if_neg (by omega)]
  exact atS_out hx.2 (by omega)
def atC (l : List ByteArray) (r : List S61) (t : Int) : Int × Bool := if t < 0 then (-1, false) else if chkV l r = 0 then atS r t else (-1, false)
theorem At_l0 {m : Int} : ∀ (post pre : List S61) (t : Int), 0 ≤ t → t ≤ 9223372036854775807 → RunsM m post → (pre ++ post).length ≤ 140737488351232 →
  Ev (fun k => capture_At.l0 k t (pre ++ post) ((pre ++ post).length : Int) (pre.length : Int)) (atS post t)
 | [], pre, t, h0, h1, hw, hl => by
  refine Ev.step (f := fun _ => some ((-1), false)) (fun k => ?_) (Ev.now _)
  simp only [capture_At.l0]
  rw [if_neg (by simp)]
 | x :: post, pre, t, h0, h1, hw, hl => by
  have hx := hw.cons
  have hlt := mid_lt pre post x
  have hn : pre.length ≤ 9223372036854775806 := by
   simp only [List.length_append, List.length_cons] at hl
   omega
  by_cases c : t < x.f1
  ·rw [atS, if_pos c]
   refine Ev.step (f := fun _ => some (x.f0, true)) (fun k => ?_) (Ev.now _)
   simp only [capture_At.l0]
   rw [rd_mid, if_pos hlt, if_pos (by omega), if_pos hlt, if_pos c]
  ·have ih := At_l0 post (pre ++ [x]) (t - x.f1) (by omega) (by omega) hx.2 (by simpa using hl)
   rw [← mid_snoc] at ih
   rw [atS, if_neg c]
   refine Ev.step (fun k => ?_) ih
   simp only [capture_At.l0]
   rw [rd_mid, if_pos hlt, if_pos (by omega), if_pos hlt, if_neg c, w64 (by omega) (by omega), succ_mid _ _ hn]
theorem At_ev {l : List ByteArray} {r : List S61} {t : Int} (hs : StrsOk l) (hl : l.length ≤ 140737488351232) (hr : r.length ≤ 140737488351232) (ht : t ≤ 9223372036854775807) : Ev (fun k => capture_At.f k l r t) (atC l r t) := by
 have hj : Ev (fun k => capture_At.j0 k t true l r) (-1, false) := Ev.step (f := fun _ => some (-1, false)) (fun k => by simp only [capture_At.j0]; rfl) (Ev.now _)
 unfold atC
 by_cases c : t < 0
 ·rw [if_pos c]
  refine Ev.congr (fun k => ?_) hj
  unfold capture_At.f
  rw [if_pos c]
 ·rw [if_neg c]
  refine Ev.congr (f := fun k => (capture_Check.f k l r).bind fun t117 => (capture_At.j0 k t (t117 != 0) l r)) (fun k => ?_) (Ev.bind (Check_ev hs hl hr) ?_)
  ·unfold capture_At.f
   rw [if_neg c]
  ·by_cases v : chkV l r = 0
   ·rw [if_pos v, v]
    refine Ev.step (fun k => ?_) (At_l0 r [] t (by omega) (by omega) (chk_0 v).2.2.1 (by simpa using hr))
    simp only [capture_At.j0]
    rw [if_neg (by decide)]
    rfl
   ·rw [if_neg v, show (chkV l r != 0) = true from bne_iff_ne.2 v]
    exact hj
/-- A run put behind runs. -/
def putR (o : List S61) (v t : Int) : List S61 :=
 match o.getLast? with
 | some y => if y.f0 = v then o.dropLast ++ [(⟨y.f0, y.f1 + t⟩ : S61)] else o ++ [(⟨v, t⟩ : S61)]
 | none => [(⟨v, t⟩ : S61)]
theorem putR_nil (v t : Int) : putR [] v t = [⟨v, t⟩] := rfl
theorem putR_same (o : List S61) (y : S61) (t : Int) : putR (o ++ [y]) y.f0 t = o ++ [⟨y.f0, y.f1 + t⟩] := by
 simp [putR]
theorem putR_new (o : List S61) (y : S61) {v t : Int} (h : ¬ y.f0 = v) : putR (o ++ [y]) v t = o ++ [y] ++ [⟨v, t⟩] := by
 simp [putR, h]
theorem snoc_cases {α : Type} (o : List α) : o = [] ∨ ∃ q y, o = q ++ [y] := by
 rcases List.eq_nil_or_concat o with h | ⟨q, y, h⟩
 ·exact .inl h
 ·exact .inr ⟨q, y, by simpa using h⟩
theorem join_eq {o : List S61} {v t : Int} (ho : o.length < 8796093022208) (h0 : 0 ≤ t) (hs : ∀ y ∈ o, 0 ≤ y.f1 ∧ y.f1 + t ≤ 9223372036854775807) : capture_join.f o v t = some (putR o v t) := by
 rcases snoc_cases o with rfl | ⟨q, y, rfl⟩
 ·unfold capture_join.f
  rw [if_neg (by simp), if_pos (by simp)]
  rfl
 ·have hy := hs y (by simp)
  have hq : q.length ≤ 9223372036854775806 := by
   simp only [List.length_append, List.length_cons, List.length_nil] at ho
   omega
  have hlt : (q.length : Int) < ((q ++ [y]).length : Int) := mid_lt q [] y
  unfold capture_join.f
  rw [last_at q y hq, rd_last, if_pos (by omega), if_pos (by omega), if_pos hlt]
  by_cases c : y.f0 = v
  ·rw [if_pos c, set_last, w64 (by omega) (by omega), ← c, putR_same]
  ·rw [if_neg c, if_pos ho, putR_new q y c]
theorem putR_sm (o : List S61) (v t : Int) : sm (putR o v t) = sm o + t := by
 rcases snoc_cases o with rfl | ⟨q, y, rfl⟩
 ·simp [putR_nil, sm]
 ·by_cases c : y.f0 = v
  ·rw [← c, putR_same]
   simp only [sm_append, sm]
   omega
  ·rw [putR_new q y c]
   simp only [sm_append, sm]
   omega
theorem putR_len (o : List S61) (v t : Int) : (putR o v t).length ≤ o.length + 1 := by
 rcases snoc_cases o with rfl | ⟨q, y, rfl⟩
 ·simp [putR_nil]
 ·by_cases c : y.f0 = v
  ·rw [← c, putR_same]
   simp
  ·rw [putR_new q y c]
   simp
theorem putR_ok {m : Int} {o : List S61} {v t : Int} (h : RunsM m o) (hv : 0 ≤ v ∧ v ≤ m) (ht : 1 ≤ t) : RunsM m (putR o v t) := by
 rcases snoc_cases o with rfl | ⟨q, y, rfl⟩
 ·intro x hx
  rw [putR_nil, List.mem_singleton] at hx
  subst hx
  exact ⟨hv.1, hv.2, ht⟩
 ·have hy := h y (by simp)
  by_cases c : y.f0 = v
  ·rw [← c, putR_same]
   intro x hx
   rcases List.mem_append.1 hx with hx | hx
   ·exact h x (by simp [hx])
   ·rw [List.mem_singleton] at hx
    subst hx
    exact ⟨hy.1, hy.2.1, by show 1 ≤ y.f1 + t; omega⟩
  ·rw [putR_new q y c]
   intro x hx
   rcases List.mem_append.1 hx with hx | hx
   ·exact h x hx
   ·rw [List.mem_singleton] at hx
    subst hx
    exact ⟨hv.1, hv.2, ht⟩
/-- Each run has at most the sum of all. -/
theorem le_sm {m : Int} : ∀ {l : List S61}, RunsM m l → ∀ y ∈ l, 0 ≤ y.f1 ∧ y.f1 ≤ sm l
 | [], h, y, hy => by simp at hy
 | x :: l, h, y, hy => by
  have hx := h.cons
  have h0 := smM_nonneg hx.2
  simp only [sm]
  rcases List.mem_cons.1 hy with rfl | hy
  ·omega
  ·have := le_sm hx.2 y hy
   omega
def cln : List S61 → List S61 → List S61
 | o, [] => o
 | o, x :: l => cln (putR o x.f0 x.f1) l
theorem cln_len : ∀ (l o : List S61), (cln o l).length ≤ o.length + l.length
 | [], o => by simp [cln]
 | x :: l, o => by
  have := cln_len l (putR o x.f0 x.f1)
  have := putR_len o x.f0 x.f1
  simp only [cln, List.length_cons]
  omega
theorem clean_l0 {m : Int} : ∀ (post pre o : List S61), RunsM m o → RunsM m post → sm o + sm post ≤ 1099511627776 → (pre ++ post).length ≤ 262144 → o.length + post.length ≤ 262144 →
  Ev (fun k => capture_clean.l0 k o (pre ++ post) ((pre ++ post).length : Int) (pre.length : Int)) (cln o post)
 | [], pre, o, h0, h1, hs, hl, ho => by
  refine Ev.step (f := fun _ => some o) (fun k => ?_) (Ev.now _)
  simp only [capture_clean.l0]
  rw [if_neg (by simp)]
 | x :: post, pre, o, h0, h1, hs, hl, ho => by
  have hx := h1.cons
  have h2 := smM_nonneg hx.2
  have h3 := smM_nonneg h0
  simp only [sm] at hs
  simp only [List.length_cons] at ho
  have hlt := mid_lt pre post x
  have hn : pre.length ≤ 9223372036854775806 := by
   simp only [List.length_append, List.length_cons] at hl
   omega
  have hj : capture_join.f o x.f0 x.f1 = some (putR o x.f0 x.f1) := join_eq (by omega) (by omega) (fun y hy => by have := le_sm h0 y hy; omega)
  have ih := clean_l0 post (pre ++ [x]) (putR o x.f0 x.f1) (putR_ok h0 ⟨hx.1.1, hx.1.2.1⟩ hx.1.2.2) hx.2 (by rw [putR_sm]; omega) (by simpa using hl) (by have := putR_len o x.f0 x.f1; omega)
  rw [← mid_snoc] at ih
  refine Ev.step (fun k => ?_) ih
  simp only [capture_clean.l0]
  rw [rd_mid, if_pos hlt, if_pos (by omega), if_pos hlt, hj, Option.bind_some, succ_mid _ _ hn]
theorem clean_ev {m : Int} {r : List S61} (h : RunsM m r) (hs : sm r ≤ 1099511627776) (hr : r.length ≤ 262144) : Ev (fun k => capture_clean.f k r) (cln [] r) :=
 Ev.congr (fun k => rfl) (clean_l0 r [] [] (fun x hx => by simp at hx) h (by simp only [sm]; omega) (by simpa using hr) (by simpa using hr))
def eqR : List S61 → List S61 → Bool
 | [], _ => true
 | _ :: _, [] => false
 | x :: a, y :: b => if x.f0 = y.f0 ∧ x.f1 = y.f1 then eqR a b else false
theorem rne_iff (x y : S61) : (!((x.f0) == (y.f0)) || (!((x.f1) == (y.f1)))) = true ↔ ¬ (x.f0 = y.f0 ∧ x.f1 = y.f1) := by
 by_cases h : x.f0 = y.f0 <;> by_cases h' : x.f1 = y.f1 <;> simp [h, h']
theorem eqR_refl : ∀ (a : List S61), eqR a a = true
 | [] => rfl
 | x :: a => by
  unfold eqR
  rw [if_pos ⟨rfl, rfl⟩]
  exact eqR_refl a
theorem EqualRun_l0 : ∀ (p q a b : List S61), p.length = q.length → a.length = b.length → (p ++ a).length ≤ 140737488351232 →
  Ev (fun k => slices_Equal_Run.l0 k (p ++ a) (q ++ b) ((p ++ a).length : Int) (p.length : Int)) (eqR a b)
 | p, q, [], b, hp, hab, hl => by
  refine Ev.step (f := fun _ => some true) (fun k => ?_) (Ev.now _)
  simp only [slices_Equal_Run.l0]
  rw [if_neg (by simp)]
 | p, q, x :: a, [], hp, hab, hl => by simp at hab
 | p, q, x :: a, y :: b, hp, hab, hl => by
  have hlt := mid_lt p a x
  have hlt2 := mid_lt q b y
  have hn : p.length ≤ 9223372036854775806 := by
   simp only [List.length_append, List.length_cons] at hl
   omega
  have e2 : rd_T61 (q ++ y :: b) (p.length : Int) = y := by
   rw [hp]
   exact rd_mid q b y
  have hst : ∀ k, slices_Equal_Run.l0 (k + 1) (p ++ x :: a) (q ++ y :: b) ((p ++ x :: a).length : Int) (p.length : Int) = if (!((x.f0) == (y.f0)) || (!((x.f1) == (y.f1)))) = true then some false else slices_Equal_Run.l0 k (p ++ x :: a) (q ++ y :: b) ((p ++ x :: a).length : Int) ((p ++ [x]).length : Int) := by
   intro k
   simp only [slices_Equal_Run.l0]
   rw [rd_mid, e2, if_pos hlt, if_pos (by omega), if_pos hlt, if_pos (by rw [hp]; exact hlt2), succ_mid _ _ hn]
  unfold eqR
  by_cases c : x.f0 = y.f0 ∧ x.f1 = y.f1
  ·rw [if_pos c]
   have ih := EqualRun_l0 (p ++ [x]) (q ++ [y]) a b (by simp [hp]) (by simpa using hab) (by simpa using hl)
   rw [← mid_snoc, ← mid_snoc] at ih
   exact Ev.step (fun k => (hst k).trans (if_neg (fun h => (rne_iff x y).1 h c))) ih
  ·rw [if_neg c]
   exact Ev.step (fun k => (hst k).trans (if_pos ((rne_iff x y).2 c))) (Ev.now _)
def eqRV (a b : List S61) : Bool := if a.length = b.length then eqR a b else false
theorem EqualRun_ev {a b : List S61} (hl : a.length ≤ 140737488351232) : Ev (fun k => slices_Equal_Run.f k a b) (eqRV a b) := by
 unfold eqRV
 by_cases c : a.length = b.length
 ·rw [if_pos c]
  refine Ev.congr (fun k => ?_) (EqualRun_l0 [] [] a b rfl c (by simpa using hl))
  unfold slices_Equal_Run.f
  rw [if_pos (by omega)]
  rfl
 ·rw [if_neg c]
  refine Ev.congr (fun k => ?_) (Ev.now _)
  unfold slices_Equal_Run.f
  rw [if_neg (by omega)]
def eqS : List ByteArray → List ByteArray → Bool
 | [], _ => true
 | _ :: _, [] => false
 | x :: a, y :: b => if x.toList = y.toList then eqS a b else false
theorem eqS_refl : ∀ (a : List ByteArray), eqS a a = true
 | [] => rfl
 | x :: a => by
  unfold eqS
  rw [if_pos rfl]
  exact eqS_refl a
theorem EqualStr_l0 : ∀ (p q a b : List ByteArray), p.length = q.length → a.length = b.length → (p ++ a).length ≤ 140737488351232 →
  Ev (fun k => slices_Equal_string.l0 k (p ++ a) (q ++ b) ((p ++ a).length : Int) (p.length : Int)) (eqS a b)
 | p, q, [], b, hp, hab, hl => by
  refine Ev.step (f := fun _ => some true) (fun k => ?_) (Ev.now _)
  simp only [slices_Equal_string.l0]
  rw [if_neg (by simp)]
 | p, q, x :: a, [], hp, hab, hl => by simp at hab
 | p, q, x :: a, y :: b, hp, hab, hl => by
  have hlt := mids_lt p a x
  have hlt2 := mids_lt q b y
  have hn : p.length ≤ 9223372036854775806 := by
   simp only [List.length_append, List.length_cons] at hl
   omega
  have e2 : rdOf ByteArray.empty (q ++ y :: b) (p.length : Int) = y := by
   rw [hp]
   exact rds_mid q b y
  have hst : ∀ k, slices_Equal_string.l0 (k + 1) (p ++ x :: a) (q ++ y :: b) ((p ++ x :: a).length : Int) (p.length : Int) = if x.toList = y.toList then slices_Equal_string.l0 k (p ++ x :: a) (q ++ y :: b) ((p ++ x :: a).length : Int) ((p ++ [x]).length : Int) else some false := by
   intro k
   simp only [slices_Equal_string.l0]
   rw [rds_mid, e2, if_pos hlt, if_pos (by omega), if_pos hlt, if_pos (by rw [hp]; exact hlt2), succ_mid _ _ hn]
  unfold eqS
  by_cases c : x.toList = y.toList
  ·rw [if_pos c]
   have ih := EqualStr_l0 (p ++ [x]) (q ++ [y]) a b (by simp [hp]) (by simpa using hab) (by simpa using hl)
   rw [← mid_snoc, ← mid_snoc] at ih
   exact Ev.step (fun k => (hst k).trans (if_pos c)) ih
  ·rw [if_neg c]
   exact Ev.step (fun k => (hst k).trans (if_neg c)) (Ev.now _)
def eqSV (a b : List ByteArray) : Bool := if a.length = b.length then eqS a b else false
theorem EqualStr_ev {a b : List ByteArray} (hl : a.length ≤ 140737488351232) : Ev (fun k => slices_Equal_string.f k a b) (eqSV a b) := by
 unfold eqSV
 by_cases c : a.length = b.length
 ·rw [if_pos c]
  refine Ev.congr (fun k => ?_) (EqualStr_l0 [] [] a b rfl c (by simpa using hl))
  unfold slices_Equal_string.f
  rw [if_pos (by omega)]
  rfl
 ·rw [if_neg c]
  refine Ev.congr (fun k => ?_) (Ev.now _)
  unfold slices_Equal_string.f
  rw [if_neg (by omega)]
/-- Same, of the program and of the reference. -/
def samV (a : List ByteArray) (r : List S61) (b : List ByteArray) (s : List S61) : Bool :=
 if chkV a r = 0 ∧ chkV b s = 0 ∧ eqSV a b = true then eqRV (cln [] r) (cln [] s) else false
theorem Same_ev {a b : List ByteArray} {r s : List S61} (ha : StrsOk a) (hb : StrsOk b) (hla : a.length ≤ 140737488351232) (hlb : b.length ≤ 140737488351232) (hr : r.length ≤ 140737488351232) (hs : s.length ≤ 140737488351232) :
  Ev (fun k => capture_Same.f k a r b s) (samV a r b s) := by
 have hj : Ev (fun k => capture_Same.j0 k true a r b s) false := Ev.step (f := fun _ => some false) (fun k => by simp only [capture_Same.j0]; rfl) (Ev.now _)
 unfold samV
 refine Ev.bind (Check_ev ha hla hr) ?_
 by_cases c : chkV a r = 0
 ·refine Ev.congr (fun k => if_pos c) (Ev.bind (Check_ev hb hlb hs) ?_)
  by_cases c1 : chkV b s = 0
  ·refine Ev.congr (fun k => if_pos c1) (Ev.bind (EqualStr_ev hla) ?_)
   by_cases c2 : eqSV a b = true
   ·have h := chk_0 c
    have h' := chk_0 c1
    rw [if_pos ⟨c, c1, c2⟩, c2]
    refine Ev.step (f := fun k => (capture_clean.f k r).bind fun t406 => ((capture_clean.f k s).bind fun t409 => ((slices_Equal_Run.f k t406 t409).bind fun t412 => (some t412)))) (fun k => ?_) (Ev.bind (clean_ev h.2.2.1 h.2.2.2 h.1) (Ev.bind (clean_ev h'.2.2.1 h'.2.2.2 h'.1) (Ev.bind (EqualRun_ev ?_) (Ev.now _))))
    ·simp only [capture_Same.j0]
     rw [if_neg (by decide)]
    ·have := cln_len r []
     simp only [List.length_nil] at this
     omega
   ·rw [if_neg (fun h => c2 h.2.2), Bool.eq_false_iff.2 c2]
    exact hj
  ·rw [if_neg (fun h => c1 h.2.1)]
   exact Ev.congr (fun k => if_neg c1) hj
 ·rw [if_neg (fun h => c h.1)]
  exact Ev.congr (fun k => if_neg c) hj
theorem sm_nil : sm ([] : List S61) = 0 := rfl
theorem sm_cons (x : S61) (l : List S61) : sm (x :: l) = x.f1 + sm l := rfl
theorem atS_cons (x : S61) (l : List S61) (t : Int) : atS (x :: l) t = if t < x.f1 then (x.f0, true) else atS l (t - x.f1) := rfl
theorem atS_append {m : Int} : ∀ {a : List S61} (b : List S61) (t : Int), RunsM m a → 0 ≤ t → atS (a ++ b) t = if t < sm a then atS a t else atS b (t - sm a)
 | [], b, t, h, ht => by
  rw [sm_nil, List.nil_append, Int.sub_zero, if_neg (by omega)]
 | x :: a, b, t, h, ht => by
  have hx := h.cons
  have h2 := smM_nonneg hx.2
  rw [List.cons_append, atS_cons, atS_cons, sm_cons]
  by_cases c : t < x.f1
  ·rw [if_pos c, if_pos (by omega), if_pos c]
  ·rw [if_neg c, if_neg c, atS_append b (t - x.f1) hx.2 (by omega)]
   by_cases c1 : t - x.f1 < sm a
   ·rw [if_pos c1, if_pos (by omega)]
   ·rw [if_neg c1, if_neg (by omega), show t - x.f1 - sm a = t - (x.f1 + sm a) by omega]
theorem mn_le (a b : Int) : mn a b ≤ a ∧ mn a b ≤ b ∧ (mn a b = a ∨ mn a b = b) := by
 unfold mn
 by_cases c : b < a
 ·rw [if_pos c]
  omega
 ·rw [if_neg c]
  omega
theorem chkV_of {l : List ByteArray} {r : List S61} (h : r.length ≤ 262144) (h1 : nmsV l = 0) (h2 : RunsM (mk l) r) (h3 : sm r ≤ 1099511627776) : chkV l r = 0 := by
 unfold chkV
 rw [if_neg (by omega), if_pos h1, if_pos ((rOk_iff (by omega)).2 ⟨h2, h3⟩)]
theorem atS_in {m : Int} : ∀ {l : List S61} {s : Int}, RunsM m l → 0 ≤ s → s < sm l → (atS l s).2 = true
 | [], s, h0, h1, h2 => by
  simp only [sm] at h2
  omega
 | x :: l, s, h0, h1, h2 => by
  simp only [sm] at h2
  simp only [atS]
  by_cases c : s < x.f1
  ·rw [if_pos c]
  ·rw [if_neg c]
   exact atS_in h0.cons.2 (by omega) (by omega)
def Tk (l : List S61) : Prop := ∀ y ∈ l, 1 ≤ y.f1
theorem RunsM.tk {m : Int} {l : List S61} (h : RunsM m l) : Tk l := fun y hy => (h y hy).2.2
theorem Tk.cons {x : S61} {l : List S61} (h : Tk (x :: l)) : 1 ≤ x.f1 ∧ Tk l := ⟨h x (by simp), fun y hy => h y (by simp [hy])⟩
theorem smT_nonneg : ∀ {l : List S61}, Tk l → 0 ≤ sm l
 | [], _ => Int.le_refl _
 | x :: l, h => by
  have h1 := h.cons
  have h2 := smT_nonneg h1.2
  simp only [sm]
  omega
theorem leT_sm : ∀ {l : List S61}, Tk l → ∀ y ∈ l, 0 ≤ y.f1 ∧ y.f1 ≤ sm l
 | [], h, y, hy => by simp at hy
 | x :: l, h, y, hy => by
  have hx := h.cons
  have h0 := smT_nonneg hx.2
  simp only [sm]
  rcases List.mem_cons.1 hy with rfl | hy
  ·omega
  ·have := leT_sm hx.2 y hy
   omega
theorem putR_tk {o : List S61} {v t : Int} (h : Tk o) (ht : 1 ≤ t) : Tk (putR o v t) := by
 rcases snoc_cases o with rfl | ⟨q, y, rfl⟩
 ·intro x hx
  rw [putR_nil, List.mem_singleton] at hx
  subst hx
  exact ht
 ·have hy := h y (by simp)
  by_cases c : y.f0 = v
  ·rw [← c, putR_same]
   intro x hx
   rcases List.mem_append.1 hx with hx | hx
   ·exact h x (by simp [hx])
   ·rw [List.mem_singleton] at hx
    subst hx
    show 1 ≤ y.f1 + t
    omega
  ·rw [putR_new q y c]
   intro x hx
   rcases List.mem_append.1 hx with hx | hx
   ·exact h x hx
   ·rw [List.mem_singleton] at hx
    subst hx
    exact ht
def bit (v i : Int) : Int := Go.bits .and .i64 (shr .i64 v i) 1
def chC (i : Int) : List S61 → List S61 → List S61
 | o, [] => o
 | o, x :: l => chC i (putR o (bit x.f0 i) x.f1) l
theorem Channel_l0 {i : Int} (hi : 0 ≤ i) : ∀ (post pre o : List S61), Tk o → Tk post → sm o + sm post ≤ 1099511627776 → (pre ++ post).length ≤ 262144 → o.length + post.length ≤ 262144 →
  Ev (fun k => capture_Channel.l0 k i o (pre ++ post) ((pre ++ post).length : Int) (pre.length : Int)) (chC i o post, 0)
 | [], pre, o, h0, h1, hs, hl, ho => by
  refine Ev.step (f := fun _ => some (o, 0)) (fun k => ?_) (Ev.now _)
  simp only [capture_Channel.l0]
  rw [if_neg (by simp)]
 | x :: post, pre, o, h0, h1, hs, hl, ho => by
  have hx := h1.cons
  have h2 := smT_nonneg hx.2
  have h3 := smT_nonneg h0
  simp only [sm] at hs
  simp only [List.length_cons] at ho
  have hlt := mid_lt pre post x
  have hn : pre.length ≤ 9223372036854775806 := by
   simp only [List.length_append, List.length_cons] at hl
   omega
  have hj : capture_join.f o (Go.bits .and .i64 (shr .i64 x.f0 i) 1) x.f1 = some (putR o (bit x.f0 i) x.f1) := join_eq (by omega) (by omega) (fun y hy => by have := leT_sm h0 y hy; omega)
  have ih := Channel_l0 hi post (pre ++ [x]) (putR o (bit x.f0 i) x.f1) (putR_tk h0 hx.1) hx.2 (by rw [putR_sm]; omega) (by simpa using hl) (by have := putR_len o (bit x.f0 i) x.f1; omega)
  rw [← mid_snoc] at ih
  refine Ev.step (fun k => ?_) ih
  simp only [capture_Channel.l0]
  rw [rd_mid, if_pos hlt, if_pos (by omega), if_pos hlt, if_pos hi, hj, Option.bind_some, succ_mid _ _ hn]
def chV (l : List ByteArray) (r : List S61) (s : ByteArray) : List S61 × Int := if chkV l r = 0 then (if ixS s 0 l < 0 then ([], 8) else (chC (ixS s 0 l) [] r, 0)) else ([], chkV l r)
theorem Channel_ev {l : List ByteArray} {r : List S61} {s : ByteArray} (hs : StrsOk l) (hl : l.length ≤ 140737488351232) (hr : r.length ≤ 140737488351232) : Ev (fun k => capture_Channel.f k l r s) (chV l r s) := by
 unfold chV
 refine Ev.bind (Check_ev hs hl hr) ?_
 by_cases c : chkV l r = 0
 ·have h := chk_0 c
  rw [if_pos c]
  refine Ev.congr (fun k => if_pos c) (Ev.bind (Index_ev l s hl) ?_)
  by_cases c1 : ixS s 0 l < 0
  ·rw [if_pos c1]
   exact Ev.congr (fun k => if_pos c1) (Ev.now _)
  ·rw [if_neg c1]
   exact Ev.congr (fun k => if_neg c1) (Channel_l0 (by omega) r [] [] (fun x hx => by simp at hx) h.2.2.1.tk (by simp only [sm]; omega) (by simpa using h.1) (by simpa using h.1))
 ·rw [if_neg c]
  exact Ev.congr (fun k => if_neg c) (Ev.now _)
theorem wrapN {n : Nat} (h : n < 9223372036854775808) : IntKind.i64.wrap (n : Int) = (n : Int) := by
 rw [IntKind.wrap_i64]
 omega
theorem ofIntN {n : Nat} (h : n < 9223372036854775808) : (BitVec.ofInt 64 (n : Int)).toNat = n := by
 rw [BitVec.toNat_ofInt]
 omega
theorem bitN {a i : Nat} (ha : a < 65536) (hi : i < 64) : bit (a : Int) (i : Int) = if a.testBit i = true then 1 else 0 := by
 have e0 : shr .i64 (a : Int) (i : Int) = ((a / 2 ^ i : Nat) : Int) := by
  show (a : Int) / 2 ^ min ((i : Int).toNat) IntKind.i64.bits = _
  rw [Int.toNat_natCast, show IntKind.i64.bits = 64 from rfl, Nat.min_eq_left (by omega)]
  norm_cast
 have h1 : a / 2 ^ i ≤ a := Nat.div_le_self _ _
 have e1 : bit (a : Int) (i : Int) = IntKind.i64.wrap (((BitVec.ofInt 64 (shr .i64 (a : Int) (i : Int)) &&& BitVec.ofInt 64 1).toNat : Nat) : Int) := rfl
 have e2 : (BitVec.ofInt 64 1).toNat = 1 := rfl
 rw [e1, BitVec.toNat_and, e0, ofIntN (by omega), e2, Nat.and_one_is_mod, wrapN (by omega), Nat.testBit_eq_decide_div_mod_eq]
 by_cases c : a / 2 ^ i % 2 = 1
 ·rw [if_pos (by simpa using c), c]
  rfl
 ·rw [if_neg (by simpa using c), show a / 2 ^ i % 2 = 0 by omega]
  rfl
theorem mk_le {l : List ByteArray} (h : l.length ≤ 16) : mk l ≤ 65535 := by
 obtain ⟨n, hn⟩ : ∃ n, n = l.length := ⟨_, rfl⟩
 unfold mk
 rw [← hn] at h ⊢
 clear hn
 have : ∀ n : Fin 17, wrap64 ((shl .i64 1 ((n.val : Nat) : Int)) - 1) ≤ 65535 := by decide +kernel
 exact this ⟨n, by omega⟩
def hd (w : List S61) : S61 := w.headD (⟨0, 0⟩ : S61)
def lvl : Int → Nat → List (List S61) → Int
 | v, _, [] => v
 | v, i, w :: ws => lvl (Go.bits .or .i64 v (shl .i64 (hd w).f0 (i : Int))) (i + 1) ws
def stp : Int → List (List S61) → Int
 | s, [] => s
 | s, w :: ws => stp (mn s (hd w).f1) ws
def cutR (s : Int) : List S61 → List S61
 | [] => []
 | x :: l => if x.f1 = s then l else (⟨x.f0, x.f1 - s⟩ : S61) :: l
theorem cutR_cons (s : Int) (x : S61) (l : List S61) : cutR s (x :: l) = if x.f1 = s then l else (⟨x.f0, x.f1 - s⟩ : S61) :: l := rfl
def mrg : Nat → List S61 → List (List S61) → List S61
 | 0, o, _ => o
 | n + 1, o, ws => if ws.headD [] = [] then o else mrg n (putR o (lvl 0 0 ws) (stp 1099511627776 ws)) (ws.map (cutR (stp 1099511627776 ws)))
/-- Waves that all have T ticks. -/
def Rem (T : Int) (ws : List (List S61)) : Prop := ∀ w ∈ ws, Tk w ∧ sm w = T
theorem Rem.cons {T : Int} {w : List S61} {ws : List (List S61)} (h : Rem T (w :: ws)) : (Tk w ∧ sm w = T) ∧ Rem T ws := ⟨h w (by simp), fun y hy => h y (by simp [hy])⟩
theorem hd_cons (x : S61) (l : List S61) : hd (x :: l) = x := rfl
theorem nonempty_of {w : List S61} (h : 0 < sm w) : ∃ x l, w = x :: l := by
 cases w with
 | nil => simp [sm] at h
 | cons x l => exact ⟨x, l, rfl⟩
theorem empty_of {w : List S61} (ht : Tk w) (h : sm w ≤ 0) : w = [] := by
 cases w with
 | nil => rfl
 | cons x l =>
  have h1 := ht.cons
  have h2 := smT_nonneg h1.2
  simp only [sm] at h
  omega
theorem hd_ok {T : Int} {w : List S61} (h : Tk w ∧ sm w = T) (hT : 0 < T) : 1 ≤ (hd w).f1 ∧ (hd w).f1 ≤ T := by
 obtain ⟨x, l, rfl⟩ := nonempty_of (w := w) (by omega)
 have h1 := h.1.cons
 have h2 := smT_nonneg h1.2
 have h3 := h.2
 simp only [sm] at h3
 rw [hd_cons]
 omega
theorem le_mn {a b c : Int} (h : c ≤ a) (h' : c ≤ b) : c ≤ mn a b := by
 unfold mn
 split <;> omega
theorem stp_le : ∀ (ws : List (List S61)) (s : Int), stp s ws ≤ s ∧ ∀ w ∈ ws, stp s ws ≤ (hd w).f1
 | [], s => ⟨Int.le_refl _, fun w hw => by simp at hw⟩
 | w :: ws, s => by
  have h := stp_le ws (mn s (hd w).f1)
  have h' := mn_le s (hd w).f1
  unfold stp
  refine ⟨by omega, fun y hy => ?_⟩
  rcases List.mem_cons.1 hy with rfl | hy
  ·omega
  ·exact h.2 y hy
theorem le_stp {b : Int} : ∀ (ws : List (List S61)) (s : Int), b ≤ s → (∀ w ∈ ws, b ≤ (hd w).f1) → b ≤ stp s ws
 | [], s, h, _ => h
 | w :: ws, s, h, hw => by
  unfold stp
  have := hw w (by simp)
  exact le_stp ws _ (le_mn h this) (fun y hy => hw y (by simp [hy]))
theorem stp_ok {T : Int} {ws : List (List S61)} (h : Rem T ws) (hT : 0 < T) : 1 ≤ stp 1099511627776 ws :=
 le_stp ws _ (by omega) (fun w hw => (hd_ok (h w hw) hT).1)
theorem cut_ok {T s : Int} {w : List S61} (h : Tk w ∧ sm w = T) (hT : 0 < T) (h1 : 1 ≤ s) (hs : s ≤ (hd w).f1) : Tk (cutR s w) ∧ sm (cutR s w) = T - s := by
 obtain ⟨x, l, rfl⟩ := nonempty_of (w := w) (by omega)
 have h2 := h.1.cons
 have h3 := h.2
 rw [hd_cons] at hs
 simp only [sm] at h3
 rw [cutR_cons]
 by_cases c : x.f1 = s
 ·rw [if_pos c]
  exact ⟨h2.2, by omega⟩
 ·rw [if_neg c]
  refine ⟨fun y hy => ?_, by simp only [sm]; omega⟩
  rcases List.mem_cons.1 hy with rfl | hy
  ·show 1 ≤ x.f1 - s
   omega
  ·exact h2.2 y hy
theorem Rem.cut {T : Int} {ws : List (List S61)} (h : Rem T ws) (hT : 0 < T) : Rem (T - stp 1099511627776 ws) (ws.map (cutR (stp 1099511627776 ws))) := by
 intro w hw
 obtain ⟨v, hv, rfl⟩ := List.mem_map.1 hw
 exact cut_ok (h v hv) hT (stp_ok h hT) ((stp_le ws _).2 v hv)
def pre1 (x : S61) : List S61 → List S61
 | [] => [x]
 | z :: zs => if z.f0 = x.f0 then (⟨x.f0, x.f1 + z.f1⟩ : S61) :: zs else x :: z :: zs
def chR (i : Int) : List S61 → List S61
 | [] => []
 | y :: c => pre1 ⟨bit y.f0 i, y.f1⟩ (chR i c)
def clR : List S61 → List S61
 | [] => []
 | y :: c => pre1 y (clR c)
theorem pre1_cons (x z : S61) (zs : List S61) : pre1 x (z :: zs) = if z.f0 = x.f0 then (⟨x.f0, x.f1 + z.f1⟩ : S61) :: zs else x :: z :: zs := rfl
theorem pre1_pre1 (b t u : Int) (L : List S61) : pre1 ⟨b, t⟩ (pre1 ⟨b, u⟩ L) = pre1 ⟨b, t + u⟩ L := by
 cases L with
 | nil => simp [pre1]
 | cons z zs =>
  by_cases c : z.f0 = b
  ·simp [pre1, c, Int.add_assoc]
  ·simp [pre1, c]
theorem pre1_new (y x : S61) (L : List S61) (h : ¬ y.f0 = x.f0) : pre1 y (pre1 x L) = y :: pre1 x L := by
 have h' : ¬ x.f0 = y.f0 := fun e => h e.symm
 cases L with
 | nil => simp [pre1, h']
 | cons z zs =>
  by_cases c : z.f0 = x.f0
  ·simp [pre1, c, h']
  ·simp [pre1, c, h']
theorem chC_snoc (i : Int) : ∀ (l q : List S61) (y : S61), chC i (q ++ [y]) l = q ++ pre1 y (chR i l)
 | [], q, y => rfl
 | x :: l, q, y => by
  unfold chC chR
  by_cases c : y.f0 = bit x.f0 i
  ·rw [← c, putR_same, chC_snoc i l q, show y = ⟨y.f0, y.f1⟩ from rfl, pre1_pre1]
  ·rw [putR_new q y c, chC_snoc i l (q ++ [y]), pre1_new y ⟨bit x.f0 i, x.f1⟩ _ c, List.append_assoc]
   rfl
theorem chC_eq (i : Int) (l : List S61) : chC i [] l = chR i l := by
 cases l with
 | nil => rfl
 | cons x l =>
  show chC i (putR [] (bit x.f0 i) x.f1) l = _
  rw [putR_nil]
  exact chC_snoc i l [] _
theorem cln_snoc : ∀ (l q : List S61) (y : S61), cln (q ++ [y]) l = q ++ pre1 y (clR l)
 | [], q, y => rfl
 | x :: l, q, y => by
  unfold cln clR
  by_cases c : y.f0 = x.f0
  ·rw [← c, putR_same, cln_snoc l q, show x = ⟨x.f0, x.f1⟩ from rfl, ← c, show y = ⟨y.f0, y.f1⟩ from rfl, pre1_pre1]
  ·rw [putR_new q y c, cln_snoc l (q ++ [y]), pre1_new y x _ c, List.append_assoc]
   rfl
theorem cln_eq (l : List S61) : cln [] l = clR l := by
 cases l with
 | nil => rfl
 | cons x l =>
  show cln (putR [] x.f0 x.f1) l = _
  rw [putR_nil]
  exact cln_snoc l [] _
theorem chR_pre1 (i : Int) (x : S61) (L : List S61) : chR i (pre1 x L) = pre1 ⟨bit x.f0 i, x.f1⟩ (chR i L) := by
 cases L with
 | nil => rfl
 | cons z zs =>
  by_cases c : z.f0 = x.f0
  ·rw [pre1_cons, if_pos c]
   show pre1 ⟨bit x.f0 i, x.f1 + z.f1⟩ (chR i zs) = pre1 _ (pre1 ⟨bit z.f0 i, z.f1⟩ (chR i zs))
   rw [c, pre1_pre1]
  ·rw [pre1_cons, if_neg c]
   rfl
theorem chR_clR (i : Int) : ∀ (l : List S61), chR i (clR l) = chR i l
 | [] => rfl
 | x :: l => by
  unfold clR
  rw [chR_pre1, chR_clR i l]
  rfl
def apR : List S61 → Prop
 | [] => True
 | [_] => True
 | x :: y :: l => ¬ y.f0 = x.f0 ∧ apR (y :: l)
theorem apR_pre1 (x : S61) (L : List S61) (h : apR L) : apR (pre1 x L) := by
 cases L with
 | nil => trivial
 | cons z zs =>
  by_cases c : z.f0 = x.f0
  ·simp only [pre1, if_pos c]
   cases zs with
   | nil => trivial
   | cons u us =>
    refine ⟨?_, h.2⟩
    show ¬ u.f0 = x.f0
    rw [← c]
    exact h.1
  ·simp only [pre1, if_neg c]
   exact ⟨c, h⟩
theorem apR_clR : ∀ (l : List S61), apR (clR l)
 | [] => trivial
 | x :: l => apR_pre1 x _ (apR_clR l)
theorem clR_of_ap : ∀ {l : List S61}, apR l → clR l = l
 | [], _ => rfl
 | [x], _ => rfl
 | x :: y :: l, h => by
  have ih := clR_of_ap (l := y :: l) h.2
  unfold clR
  rw [ih]
  simp only [pre1]
  rw [if_neg h.1]
theorem clR_clR (l : List S61) : clR (clR l) = clR l := clR_of_ap (apR_clR l)
def chs : Nat → Nat → List S61 → List (List S61)
 | _, 0, _ => []
 | i, n + 1, c => chR (i : Int) c :: chs (i + 1) n c
theorem mem_chs : ∀ (n i : Nat) (c w : List S61), w ∈ chs i n c ↔ ∃ k, i ≤ k ∧ k < i + n ∧ w = chR (k : Int) c
 | 0, i, c, w => by
  simp only [chs, List.not_mem_nil, false_iff]
  rintro ⟨k, h1, h2, _⟩
  omega
 | n + 1, i, c, w => by
  rw [chs, List.mem_cons, mem_chs n (i + 1) c w]
  constructor
  ·rintro (h | ⟨k, h1, h2, h3⟩)
   ·exact ⟨i, by omega, by omega, h⟩
   ·exact ⟨k, by omega, by omega, h3⟩
  ·rintro ⟨k, h1, h2, h3⟩
   by_cases e : k = i
   ·subst e
    exact .inl h3
   ·exact .inr ⟨k, by omega, by omega, h3⟩
theorem hd_pre1 (x : S61) (L : List S61) (h : Tk L) : (hd (pre1 x L)).f0 = x.f0 ∧ x.f1 ≤ (hd (pre1 x L)).f1 := by
 cases L with
 | nil => exact ⟨rfl, Int.le_refl _⟩
 | cons z zs =>
  have hz := h.cons
  by_cases c : z.f0 = x.f0
  ·rw [pre1_cons, if_pos c]
   exact ⟨rfl, by show x.f1 ≤ x.f1 + z.f1; omega⟩
  ·rw [pre1_cons, if_neg c]
   exact ⟨rfl, Int.le_refl _⟩
theorem pre1_tk {x : S61} {L : List S61} (h : Tk L) (hx : 1 ≤ x.f1) : Tk (pre1 x L) := by
 cases L with
 | nil =>
  intro y hy
  simp only [pre1, List.mem_singleton] at hy
  subst hy
  exact hx
 | cons z zs =>
  have hz := h.cons
  by_cases c : z.f0 = x.f0
  ·simp only [pre1, if_pos c]
   intro y hy
   rcases List.mem_cons.1 hy with rfl | hy
   ·show 1 ≤ x.f1 + z.f1
    omega
   ·exact hz.2 y hy
  ·simp only [pre1, if_neg c]
   intro y hy
   rcases List.mem_cons.1 hy with rfl | hy
   ·exact hx
   ·exact h y hy
theorem chR_tk (i : Int) : ∀ {l : List S61}, Tk l → Tk (chR i l)
 | [], _ => fun y hy => by simp [chR] at hy
 | x :: l, h => pre1_tk (chR_tk i h.cons.2) h.cons.1
theorem clR_tk : ∀ {l : List S61}, Tk l → Tk (clR l)
 | [], _ => fun y hy => by simp [clR] at hy
 | x :: l, h => pre1_tk (clR_tk h.cons.2) h.cons.1
theorem pre1_sm (x : S61) (L : List S61) : sm (pre1 x L) = x.f1 + sm L := by
 cases L with
 | nil => rfl
 | cons z zs =>
  by_cases c : z.f0 = x.f0
  ·simp only [pre1, if_pos c, sm]
   omega
  ·simp only [pre1, if_neg c, sm]
theorem chR_sm (i : Int) : ∀ (l : List S61), sm (chR i l) = sm l
 | [] => rfl
 | x :: l => by rw [chR, pre1_sm, chR_sm i l, sm]
theorem clR_sm : ∀ (l : List S61), sm (clR l) = sm l
 | [] => rfl
 | x :: l => by rw [clR, pre1_sm, clR_sm l, sm]
theorem cut_pre1 (x : S61) (L : List S61) (h : Tk L) : cutR x.f1 (pre1 x L) = L := by
 cases L with
 | nil => simp [pre1, cutR]
 | cons z zs =>
  have hz := h.cons
  by_cases c : z.f0 = x.f0
  ·rw [pre1_cons, if_pos c, cutR_cons]
   show (if x.f1 + z.f1 = x.f1 then zs else (⟨x.f0, x.f1 + z.f1 - x.f1⟩ : S61) :: zs) = _
   rw [if_neg (by omega), show x.f1 + z.f1 - x.f1 = z.f1 by omega, ← c]
  ·rw [pre1_cons, if_neg c, cutR_cons, if_pos rfl]
theorem cut_chs (y : S61) : ∀ (n i : Nat) (c : List S61), Tk c → (chs i n (y :: c)).map (cutR y.f1) = chs i n c
 | 0, i, c, h => rfl
 | n + 1, i, c, h => by
  rw [chs, chs, List.map_cons, cut_chs y n (i + 1) c h, chR]
  rw [cut_pre1 ⟨bit y.f0 (i : Int), y.f1⟩ (chR (i : Int) c) (chR_tk _ h)]
theorem or_bit {y i : Nat} (hy : y < 65536) (hi : i < 16) : Go.bits .or .i64 ((y % 2 ^ i : Nat) : Int) (shl .i64 (bit (y : Int) (i : Int)) (i : Int)) = ((y % 2 ^ (i + 1) : Nat) : Int) := by
 have hp : (2 : Nat) ^ i ≤ 2 ^ 15 := Nat.pow_le_pow_right (by omega) (by omega)
 have hm : y % 2 ^ i < 2 ^ i := Nat.mod_lt _ (Nat.two_pow_pos i)
 have e0 : shl .i64 (bit (y : Int) (i : Int)) (i : Int) = ((2 ^ i * (y.testBit i).toNat : Nat) : Int) := by
  rw [bitN hy (by omega)]
  have h1 : ∀ k : Fin 16, shl .i64 1 ((k.val : Nat) : Int) = ((2 ^ k.val : Nat) : Int) := by decide +kernel
  have h0 : ∀ k : Fin 16, shl .i64 0 ((k.val : Nat) : Int) = 0 := by decide +kernel
  cases y.testBit i
  ·simpa using h0 ⟨i, hi⟩
  ·simpa using h1 ⟨i, hi⟩
 have hb : (y.testBit i).toNat ≤ 1 := by cases y.testBit i <;> decide
 have hb2 : 2 ^ i * (y.testBit i).toNat ≤ 2 ^ i * 1 := Nat.mul_le_mul_left _ hb
 have e1 : ∀ a b : Int, Go.bits .or .i64 a b = IntKind.i64.wrap (((BitVec.ofInt 64 a ||| BitVec.ofInt 64 b).toNat : Nat) : Int) := fun a b => rfl
 have e2 : y % 2 ^ (i + 1) = 2 ^ i * (y.testBit i).toNat + y % 2 ^ i := by
  rw [Nat.mod_pow_succ, Nat.toNat_testBit]
  omega
 rw [e0, e1, BitVec.toNat_or, ofIntN (by omega), ofIntN (by omega), e2, Nat.two_pow_add_eq_or_of_lt hm, Nat.or_comm, wrapN]
 rw [← Nat.two_pow_add_eq_or_of_lt hm]
 omega
theorem lvl_chs {y : Nat} (hy : y < 65536) (t : Int) : ∀ (n i : Nat) (c : List S61), Tk c → i + n ≤ 16 → lvl ((y % 2 ^ i : Nat) : Int) i (chs i n ((⟨(y : Int), t⟩ : S61) :: c)) = ((y % 2 ^ (i + n) : Nat) : Int)
 | 0, i, c, h, hn => rfl
 | n + 1, i, c, h, hn => by
  rw [chs, lvl, chR, (hd_pre1 ⟨bit (y : Int) (i : Int), t⟩ _ (chR_tk _ h)).1]
  show lvl (Go.bits .or .i64 _ (shl .i64 (bit (y : Int) (i : Int)) (i : Int))) (i + 1) _ = _
  rw [or_bit hy (by omega), lvl_chs hy t n (i + 1) c h (by omega), show i + 1 + n = i + (n + 1) by omega]
theorem stp_chs {y : S61} {n : Nat} {c : List S61} (hn : 1 ≤ n) (h16 : n ≤ 16) (ht : Tk (y :: c)) (hs : y.f1 ≤ 1099511627776) (hy : 0 ≤ y.f0 ∧ y.f0 < 2 ^ n) (hc : ∀ z ∈ c, 0 ≤ z.f0 ∧ z.f0 < 2 ^ n) (ha : apR (y :: c)) : stp 1099511627776 (chs 0 n (y :: c)) = y.f1 := by
 have hlo : y.f1 ≤ stp 1099511627776 (chs 0 n (y :: c)) := by
  refine le_stp _ _ hs (fun w hw => ?_)
  obtain ⟨k, _, _, rfl⟩ := (mem_chs n 0 _ w).1 hw
  exact (hd_pre1 ⟨bit y.f0 (k : Int), y.f1⟩ _ (chR_tk _ ht.cons.2)).2
 have hex : ∃ k : Nat, k < n ∧ (hd (chR (k : Int) (y :: c))).f1 = y.f1 := by
  cases c with
  | nil => exact ⟨0, by omega, rfl⟩
  | cons z l =>
   have hz := hc z (by simp)
   have hne : ¬ z.f0 = y.f0 := ha.1
   have hp : (2 : Nat) ^ n ≤ 2 ^ 16 := Nat.pow_le_pow_right (by omega) h16
   obtain ⟨a, ea⟩ := Int.eq_ofNat_of_zero_le hy.1
   obtain ⟨b, eb⟩ := Int.eq_ofNat_of_zero_le hz.1
   have ha' : a < 2 ^ n := by
    have := hy.2
    rw [ea] at this
    exact_mod_cast this
   have hb' : b < 2 ^ n := by
    have := hz.2
    rw [eb] at this
    exact_mod_cast this
   have : ∃ k, ¬ a.testBit k = b.testBit k := by
    apply Classical.byContradiction
    intro hno
    apply hne
    rw [ea, eb, Nat.eq_of_testBit_eq (x := b) (y := a) (fun k => by
     apply Classical.byContradiction
     intro hk
     exact hno ⟨k, fun e => hk e.symm⟩)]
   obtain ⟨k, hk⟩ := this
   have hkn : k < n := by
    apply Classical.byContradiction
    intro hge
    have hpk : 2 ^ n ≤ 2 ^ k := Nat.pow_le_pow_right (by omega) (by omega)
    rw [Nat.testBit_lt_two_pow (by omega), Nat.testBit_lt_two_pow (by omega)] at hk
    exact hk rfl
   refine ⟨k, hkn, ?_⟩
   have e : ¬ bit z.f0 (k : Int) = bit y.f0 (k : Int) := by
    rw [ea, eb, bitN (by omega) (by omega), bitN (by omega) (by omega)]
    revert hk
    cases a.testBit k <;> cases b.testBit k <;> simp
   have e2 := hd_pre1 ⟨bit z.f0 (k : Int), z.f1⟩ (chR (k : Int) l) (chR_tk _ ht.cons.2.cons.2)
   show (hd (pre1 ⟨bit y.f0 (k : Int), y.f1⟩ (pre1 ⟨bit z.f0 (k : Int), z.f1⟩ (chR (k : Int) l)))).f1 = y.f1
   rw [pre1_new _ _ _ (fun e3 => e e3.symm)]
   rfl
 obtain ⟨k, hk, e⟩ := hex
 have := (stp_le (chs 0 n (y :: c)) 1099511627776).2 _ ((mem_chs n 0 _ _).2 ⟨k, by omega, by omega, rfl⟩)
 omega
theorem mrg_chs {n : Nat} (hn : 1 ≤ n) (h16 : n ≤ 16) : ∀ (c o : List S61) (m : Nat), c.length ≤ m → Tk c → sm c ≤ 1099511627776 → (∀ z ∈ c, 0 ≤ z.f0 ∧ z.f0 < 2 ^ n) → apR c → mrg m o (chs 0 n c) = cln o c
 | [], o, m, hm, ht, hs, hb, ha => by
  cases m with
  | zero => rfl
  | succ m =>
   unfold mrg
   rw [if_pos (by
    cases n with
    | zero => omega
    | succ n => rfl)]
   rfl
 | y :: c, o, 0, hm, ht, hs, hb, ha => by simp at hm
 | y :: c, o, m + 1, hm, ht, hs, hb, ha => by
  have hy := hb y (by simp)
  have hc : ∀ z ∈ c, 0 ≤ z.f0 ∧ z.f0 < 2 ^ n := fun z hz => hb z (by simp [hz])
  have h0 := smT_nonneg ht.cons.2
  simp only [sm] at hs
  have hy1 := ht.cons.1
  have e1 := stp_chs hn h16 ht (by omega) hy hc ha
  have hp : (2 : Nat) ^ n ≤ 2 ^ 16 := Nat.pow_le_pow_right (by omega) h16
  have e2 : lvl 0 0 (chs 0 n (y :: c)) = y.f0 := by
   obtain ⟨a, ea⟩ := Int.eq_ofNat_of_zero_le hy.1
   have ha' : a < 2 ^ n := by
    have := hy.2
    rw [ea] at this
    exact_mod_cast this
   have := lvl_chs (y := a) (by omega) y.f1 n 0 c ht.cons.2 (by omega)
   rw [Nat.zero_add, Nat.mod_eq_of_lt ha', ← ea] at this
   rw [← this]
   simp
  have hap : apR c := by
   cases c with
   | nil => trivial
   | cons z l => exact ha.2
  unfold mrg
  rw [if_neg (by
   cases n with
   | zero => omega
   | succ n =>
    simp only [chs, List.headD_cons]
    intro h
    have := congrArg sm h
    rw [chR_sm] at this
    simp only [sm] at this
    have := ht.cons.1
    omega), e1, e2, cut_chs y n 0 c ht.cons.2, mrg_chs hn h16 c _ m (by simpa using hm) ht.cons.2 (by omega) hc hap]
  rfl
def cA (c : List S61 × List S61 × Int) : Int := (c.1.length : Int)
def cU (c : List S61 × List S61 × Int) : Int := c.2.2
def cW (c : List S61 × List S61 × Int) : List S61 := c.1 ++ c.2.1
def shr1 (u : Int) : List S61 → List S61
 | [] => []
 | x :: l => (⟨x.f0, x.f1 - u⟩ : S61) :: l
def cR (c : List S61 × List S61 × Int) : List S61 := shr1 c.2.2 c.2.1
def cOk (c : List S61 × List S61 × Int) : Prop := match c.2.1 with
 | [] => c.2.2 = 0
 | x :: _ => 0 ≤ c.2.2 ∧ c.2.2 < x.f1 ∧ x.f1 ≤ 1099511627776
def cAdv (s : Int) (c : List S61 × List S61 × Int) : List S61 × List S61 × Int := match c with
 | (p, [], u) => (p, [], u)
 | (p, x :: q, u) => if u + s = x.f1 then (p ++ [x], q, 0) else (p, x :: q, u + s)
def cLen (c : List S61 × List S61 × Int) : Prop := (cW c).length ≤ 262144
theorem cAdv_W (s : Int) (c : List S61 × List S61 × Int) : cW (cAdv s c) = cW c := by
 obtain ⟨p, q, u⟩ := c
 cases q with
 | nil => rfl
 | cons x q =>
  by_cases e : u + s = x.f1
  ·simp [cAdv, e, cW]
  ·simp [cAdv, e, cW]
theorem shr1_zero (l : List S61) : shr1 0 l = l := by
 cases l with
 | nil => rfl
 | cons x l => simp [shr1]
theorem cAdv_R (s : Int) (c : List S61 × List S61 × Int) : cR (cAdv s c) = cutR s (cR c) := by
 obtain ⟨p, q, u⟩ := c
 cases q with
 | nil => rfl
 | cons x q =>
  by_cases e : u + s = x.f1
  ·have e' : x.f1 - u = s := by omega
   have e3 : cAdv s (p, x :: q, u) = (p ++ [x], q, 0) := by simp [cAdv, e]
   rw [e3]
   show shr1 0 q = cutR s ((⟨x.f0, x.f1 - u⟩ : S61) :: q)
   rw [shr1_zero, cutR_cons]
   exact (if_pos e').symm
  ·have e' : ¬ x.f1 - u = s := by omega
   have e2 : x.f1 - u - s = x.f1 - (u + s) := by omega
   simp [cAdv, e, cR, shr1, cutR, e', e2]
theorem cAdv_ok {s : Int} {c : List S61 × List S61 × Int} (h : cOk c) (ht : Tk (cR c)) (hs : sm (cW c) ≤ 1099511627776) (hp : Tk (cW c)) (h1 : 1 ≤ s) (h2 : s ≤ (hd (cR c)).f1 ∨ c.2.1 = []) : cOk (cAdv s c) := by
 obtain ⟨p, q, u⟩ := c
 cases q with
 | nil => exact h
 | cons x q =>
  have h0 : 0 ≤ u ∧ u < x.f1 ∧ x.f1 ≤ 1099511627776 := h
  have h3 : s ≤ x.f1 - u := by
   rcases h2 with h2 | h2
   ·exact h2
   ·cases h2
  by_cases e : u + s = x.f1
  ·simp only [cAdv, if_pos e]
   cases q with
   | nil => rfl
   | cons y q =>
    have hy : y ∈ cW (p, x :: y :: q, u) := by simp [cW]
    have := leT_sm hp y hy
    have := hp y hy
    show 0 ≤ (0 : Int) ∧ 0 < y.f1 ∧ y.f1 ≤ 1099511627776
    omega
  ·simp only [cAdv, if_neg e]
   show 0 ≤ u + s ∧ u + s < x.f1 ∧ x.f1 ≤ 1099511627776
   omega
theorem merge_l1 (W : List (List S61)) (A U : List Int) (o : List S61) (R : List S61) : ∀ (t s : List (List S61 × List S61 × Int)) (pa pu : List Int) (v st : Int),
  (∀ c ∈ t, cOk c ∧ c.2.1 ≠ []) → W = (s ++ t).map cW → A = (s ++ t).map cA ++ pa → U = (s ++ t).map cU ++ pu → W.length ≤ 262144 →
  Ev (fun k => (capture_join.f o (lvl v s.length (t.map cR)) (stp st (t.map cR))).bind fun o' => capture_merge.l2 k W A U o' (stp st (t.map cR)) W (W.length : Int) 0) R →
  Ev (fun k => capture_merge.l1 k W A U o v st W (W.length : Int) (s.length : Int)) R
 | [], s, pa, pu, v, st, hc, hW, hA, hU, hl, h => by
  have e : (s.length : Int) = (W.length : Int) := by simp [hW]
  refine Ev.step (fun k => ?_) h
  simp only [capture_merge.l1]
  rw [if_neg (by omega)]
  rfl
 | (p, [], u) :: t, s, pa, pu, v, st, hc, hW, hA, hU, hl, h => absurd rfl (hc _ List.mem_cons_self).2
 | (p, x :: q, u) :: t, s, pa, pu, v, st, hc, hW, hA, hU, hl, h => by
  have h0 : 0 ≤ u ∧ u < x.f1 ∧ x.f1 ≤ 1099511627776 := (hc _ List.mem_cons_self).1
  have eW : W = s.map cW ++ (p ++ x :: q) :: t.map cW := by simp [hW, cW]
  have eA : A = s.map cA ++ (p.length : Int) :: (t.map cA ++ pa) := by simp [hA, cA]
  have eU : U = s.map cU ++ u :: (t.map cU ++ pu) := by simp [hU, cU]
  have nW : ((s.map cW).length : Int) = (s.length : Int) := by simp
  have nA : ((s.map cA).length : Int) = (s.length : Int) := by simp
  have nU : ((s.map cU).length : Int) = (s.length : Int) := by simp
  have rW : rd_L4 W (s.length : Int) = p ++ x :: q := by
   rw [eW, ← nW]
   exact rdl_mid _ _ _
  have rA : rd A (s.length : Int) = (p.length : Int) := by
   rw [eA, ← nA]
   exact rdi_mid _ _ _
  have rU : rd U (s.length : Int) = u := by
   rw [eU, ← nU]
   exact rdi_mid _ _ _
  have lW : (s.length : Int) < (W.length : Int) := by
   rw [eW, ← nW]
   exact midl_lt _ _ _
  have lA : (s.length : Int) < (A.length : Int) := by
   rw [eA, ← nA]
   exact midi_lt _ _ _
  have lU : (s.length : Int) < (U.length : Int) := by
   rw [eU, ← nU]
   exact midi_lt _ _ _
  have e1 : (s ++ [(p, x :: q, u)]).length = s.length + 1 := by simp
  have ih := merge_l1 W A U o R t (s ++ [(p, x :: q, u)]) pa pu (Go.bits .or .i64 v (shl .i64 x.f0 (s.length : Int))) (mn st (x.f1 - u)) (fun c hc' => hc c (by simp [hc'])) (by simpa using hW) (by simpa using hA) (by simpa using hU) hl (by rw [e1]; exact h)
  refine Ev.step (fun k => ?_) ih
  simp only [capture_merge.l1]
  rw [rW, rA, rU, rd_mid, if_pos lW, if_pos (by omega), if_pos lW, if_pos lA, if_pos (by omega), if_pos (mid_lt p q x), if_pos lU, w64 (x := x.f1 - u) (by omega) (by omega), w64 (x := (s.length : Int) + 1) (by omega) (by omega), e1]
  norm_cast
theorem seti_mid (pre post : List Int) (x y : Int) (i : Int) (h : i = (pre.length : Int)) : (pre ++ x :: post).set i.toNat y = pre ++ y :: post := by
 subst h
 rw [Int.toNat_natCast]
 simp
theorem merge_l2 (W : List (List S61)) (o : List S61) (d : Int) (R : List S61) (pa pu : List Int) : ∀ (t s : List (List S61 × List S61 × Int)),
  1 ≤ d → (∀ c ∈ t, cOk c ∧ c.2.1 ≠ [] ∧ d ≤ (hd (cR c)).f1 ∧ cLen c) → W = (s ++ t).map cW → W.length ≤ 262144 →
  Ev (fun k => capture_merge.l0 k W ((s ++ t.map (cAdv d)).map cA ++ pa) ((s ++ t.map (cAdv d)).map cU ++ pu) o) R →
  Ev (fun k => capture_merge.l2 k W ((s ++ t).map cA ++ pa) ((s ++ t).map cU ++ pu) o d W (W.length : Int) (s.length : Int)) R
 | [], s, hd1, hc, hW, hl, h => by
  have e : (s.length : Int) = (W.length : Int) := by simp [hW]
  refine Ev.step (fun k => ?_) h
  simp only [capture_merge.l2]
  rw [if_neg (by omega)]
  rfl
 | (p, [], u) :: t, s, hd1, hc, hW, hl, h => absurd rfl (hc _ List.mem_cons_self).2.1
 | (p, x :: q, u) :: t, s, hd1, hc, hW, hl, h => by
  have hcc := hc _ (List.mem_cons_self)
  have h0 : 0 ≤ u ∧ u < x.f1 ∧ x.f1 ≤ 1099511627776 := hcc.1
  have hdx : d ≤ x.f1 - u := hcc.2.2.1
  have hpl : p.length ≤ 262144 := by
   have : (p ++ x :: q).length ≤ 262144 := hcc.2.2.2
   simp only [List.length_append] at this
   omega
  have eW : W = s.map cW ++ (p ++ x :: q) :: t.map cW := by simp [hW, cW]
  have eA : (s ++ (p, x :: q, u) :: t).map cA ++ pa = s.map cA ++ (p.length : Int) :: (t.map cA ++ pa) := by simp [cA]
  have eU : (s ++ (p, x :: q, u) :: t).map cU ++ pu = s.map cU ++ u :: (t.map cU ++ pu) := by simp [cU]
  have nW : ((s.map cW).length : Int) = (s.length : Int) := by simp
  have nA : ((s.map cA).length : Int) = (s.length : Int) := by simp
  have nU : ((s.map cU).length : Int) = (s.length : Int) := by simp
  have rW : rd_L4 W (s.length : Int) = p ++ x :: q := by
   rw [eW, ← nW]
   exact rdl_mid _ _ _
  have lW : (s.length : Int) < (W.length : Int) := by
   rw [eW, ← nW]
   exact midl_lt _ _ _
  have rA : rd (s.map cA ++ (p.length : Int) :: (t.map cA ++ pa)) (s.length : Int) = (p.length : Int) := by
   rw [← nA]
   exact rdi_mid _ _ _
  have rU : ∀ z, rd (s.map cU ++ z :: (t.map cU ++ pu)) (s.length : Int) = z := by
   intro z
   rw [← nU]
   exact rdi_mid _ _ _
  have lA : (s.length : Int) < ((s.map cA ++ (p.length : Int) :: (t.map cA ++ pa)).length : Int) := by
   have := midi_lt (s.map cA) (t.map cA ++ pa) (p.length : Int)
   omega
  have lU : (s.length : Int) < ((s.map cU ++ u :: (t.map cU ++ pu)).length : Int) := by
   have := midi_lt (s.map cU) (t.map cU ++ pu) u
   omega
  have sU : ∀ z y, (s.map cU ++ z :: (t.map cU ++ pu)).set ((s.length : Int)).toNat y = s.map cU ++ y :: (t.map cU ++ pu) := fun z y => seti_mid _ _ _ _ _ nU.symm
  have sA : ∀ y, (s.map cA ++ (p.length : Int) :: (t.map cA ++ pa)).set ((s.length : Int)).toNat y = s.map cA ++ y :: (t.map cA ++ pa) := fun y => seti_mid _ _ _ _ _ nA.symm
  have e1 : (((s ++ [cAdv d (p, x :: q, u)]).length : Nat) : Int) = (s.length : Int) + 1 := by simp
  have ih := merge_l2 W o d R pa pu t (s ++ [cAdv d (p, x :: q, u)]) hd1 (fun c hc' => hc c (by simp [hc'])) (by rw [hW]; simp [cAdv_W]) hl (by simpa using h)
  rw [e1] at ih
  rw [eA, eU]
  by_cases e : u + d = x.f1
  ·have e2 : cAdv d (p, x :: q, u) = (p ++ [x], q, 0) := by simp [cAdv, e]
   rw [e2] at ih
   have eA' : ((s ++ [(p ++ [x], q, (0 : Int))]) ++ t).map cA ++ pa = s.map cA ++ ((p.length : Int) + 1) :: (t.map cA ++ pa) := by simp [cA]
   have eU' : ((s ++ [(p ++ [x], q, (0 : Int))]) ++ t).map cU ++ pu = s.map cU ++ 0 :: (t.map cU ++ pu) := by simp [cU]
   rw [eA', eU'] at ih
   refine Ev.step (fun k => ?_) ih
   simp only [capture_merge.l2]
   rw [if_pos lW, if_pos (by omega), if_pos lW, if_pos lU, Option.bind_some, if_pos lA, rA, if_pos (by omega), rW, if_pos (mid_lt p q x), sU, rU, rU, rd_mid, w64 (x := u + d) (by omega) (by omega), if_pos e, sA, sU, w64 (x := (s.length : Int) + 1) (by omega) (by omega), w64 (x := (p.length : Int) + 1) (by omega) (by omega)]
  ·have e2 : cAdv d (p, x :: q, u) = (p, x :: q, u + d) := by simp [cAdv, e]
   rw [e2] at ih
   have eA' : ((s ++ [(p, x :: q, u + d)]) ++ t).map cA ++ pa = s.map cA ++ (p.length : Int) :: (t.map cA ++ pa) := by simp [cA]
   have eU' : ((s ++ [(p, x :: q, u + d)]) ++ t).map cU ++ pu = s.map cU ++ (u + d) :: (t.map cU ++ pu) := by simp [cU]
   rw [eA', eU'] at ih
   refine Ev.step (fun k => ?_) ih
   simp only [capture_merge.l2]
   rw [if_pos lW, if_pos (by omega), if_pos lW, if_pos lU, Option.bind_some, if_pos lA, rA, if_pos (by omega), rW, if_pos (mid_lt p q x), sU, rU, rU, rd_mid, w64 (x := u + d) (by omega) (by omega), if_neg e, w64 (x := (s.length : Int) + 1) (by omega) (by omega)]
theorem cR_nonempty {T : Int} {c : List S61 × List S61 × Int} (h : Tk (cR c) ∧ sm (cR c) = T) (hT : 0 < T) : c.2.1 ≠ [] := by
 obtain ⟨p, q, u⟩ := c
 cases q with
 | nil =>
  have := h.2
  simp [cR, shr1, sm] at this
  omega
 | cons x q => simp
theorem merge_l0 (W : List (List S61)) (hl : W.length ≤ 262144) (pa pu : List Int) : ∀ (n : Nat) (σ : List (List S61 × List S61 × Int)) (o : List S61) (T : Int), T ≤ n → 0 ≤ T →
  W = σ.map cW → σ ≠ [] → Rem T (σ.map cR) → (∀ c ∈ σ, cOk c ∧ cLen c ∧ Tk (cW c) ∧ sm (cW c) ≤ 1099511627776) → Tk o → sm o + T ≤ 1099511627776 → o.length + T ≤ 8796093022207 →
  Ev (fun k => capture_merge.l0 k W (σ.map cA ++ pa) (σ.map cU ++ pu) o) (mrg n o (σ.map cR))
 | n, [], o, T, hn, hT, hW, hne, hR, hc, ho, hs, hlo => absurd rfl hne
 | n, c :: σ, o, T, hn, hT, hW, hne, hR, hc, ho, hs, hlo => by
  have hR0 := hR.cons
  have hcc := hc c (by simp)
  have rA : rd ((c :: σ).map cA ++ pa) 0 = cA c := by simp [rd, List.getD]
  have rW : rd_L4 W 0 = cW c := by simp [rd_L4, hW, List.getD]
  have lA : (0 : Int) < (((c :: σ).map cA ++ pa).length : Int) := by
   simp only [List.map_cons, List.cons_append, List.length_cons]
   omega
  have lW : (0 : Int) < (W.length : Int) := by
   rw [hW]
   simp only [List.map_cons, List.length_cons]
   omega
  by_cases hT0 : T = 0
  ·have e : c.2.1 = [] := by
    have h1 := empty_of hR0.1.1 (by omega)
    obtain ⟨p, q, u⟩ := c
    cases q with
    | nil => rfl
    | cons x q => simp [cR, shr1] at h1
   have er : cR c = [] := by
    obtain ⟨p, q, u⟩ := c
    have : q = [] := e
    subst this
    rfl
   have em : mrg n o ((c :: σ).map cR) = o := by
    cases n with
    | zero => rfl
    | succ n =>
     unfold mrg
     rw [if_pos (by simp [er])]
   rw [em]
   refine Ev.step (f := fun _ => some o) (fun k => ?_) (Ev.now _)
   simp only [capture_merge.l0]
   rw [if_pos lA, if_pos lW, rA, rW, if_neg (by simp [cA, cW, e])]
  ·have hTp : 0 < T := by omega
   obtain ⟨n, rfl⟩ : ∃ m, n = m + 1 := ⟨n - 1, by omega⟩
   have hq := cR_nonempty hR0.1 hTp
   have hnr : ¬ (((c :: σ).map cR).headD [] = []) := by
    obtain ⟨p, q, u⟩ := c
    cases q with
    | nil => exact absurd rfl hq
    | cons x q => simp [cR, shr1]
   have h1 := stp_ok hR hTp
   have hle := (stp_le ((c :: σ).map cR) 1099511627776).2
   have hTs : stp 1099511627776 ((c :: σ).map cR) ≤ T := by
    have := hle (cR c) (by simp)
    have := hd_ok hR0.1 hTp
    omega
   have hall : ∀ y ∈ c :: σ, cOk y ∧ y.2.1 ≠ [] ∧ stp 1099511627776 ((c :: σ).map cR) ≤ (hd (cR y)).f1 ∧ cLen y := fun y hy =>
    ⟨(hc y hy).1, cR_nonempty (hR _ (List.mem_map_of_mem hy)) hTp, hle _ (List.mem_map_of_mem hy), (hc y hy).2.1⟩
   have hj : capture_join.f o (lvl 0 0 ((c :: σ).map cR)) (stp 1099511627776 ((c :: σ).map cR)) = some (putR o (lvl 0 0 ((c :: σ).map cR)) (stp 1099511627776 ((c :: σ).map cR))) :=
    join_eq (by omega) (by omega) (fun y hy => by have := leT_sm ho y hy; omega)
   have eR : ((c :: σ).map (cAdv (stp 1099511627776 ((c :: σ).map cR)))).map cR = ((c :: σ).map cR).map (cutR (stp 1099511627776 ((c :: σ).map cR))) := by
    rw [List.map_map, List.map_map]
    exact List.map_congr_left (fun y _ => cAdv_R _ y)
   have eW : ((c :: σ).map (cAdv (stp 1099511627776 ((c :: σ).map cR)))).map cW = (c :: σ).map cW := by
    rw [List.map_map]
    exact List.map_congr_left (fun y _ => cAdv_W _ y)
   have ih := merge_l0 W hl pa pu n ((c :: σ).map (cAdv (stp 1099511627776 ((c :: σ).map cR)))) (putR o (lvl 0 0 ((c :: σ).map cR)) (stp 1099511627776 ((c :: σ).map cR))) (T - stp 1099511627776 ((c :: σ).map cR)) (by omega) (by omega) (by rw [eW]; exact hW) (by simp) (by rw [eR]; exact hR.cut hTp) (fun y hy => by
     obtain ⟨z, hz, rfl⟩ := List.mem_map.1 hy
     have h := hc z hz
     exact ⟨cAdv_ok h.1 (hR _ (List.mem_map_of_mem hz)).1 h.2.2.2 h.2.2.1 h1 (.inl (hall z hz).2.2.1), by unfold cLen; rw [cAdv_W]; exact h.2.1, by rw [cAdv_W]; exact h.2.2.1, by rw [cAdv_W]; exact h.2.2.2⟩) (putR_tk ho h1) (by rw [putR_sm]; omega) (by have := putR_len o (lvl 0 0 ((c :: σ).map cR)) (stp 1099511627776 ((c :: σ).map cR)); omega)
   have e : mrg (n + 1) o ((c :: σ).map cR) = mrg n (putR o (lvl 0 0 ((c :: σ).map cR)) (stp 1099511627776 ((c :: σ).map cR))) (((c :: σ).map cR).map (cutR (stp 1099511627776 ((c :: σ).map cR)))) := by
    rw [mrg, if_neg hnr]
   rw [e, ← eR]
   have h2 := merge_l2 W (putR o (lvl 0 0 ((c :: σ).map cR)) (stp 1099511627776 ((c :: σ).map cR))) (stp 1099511627776 ((c :: σ).map cR)) _ pa pu (c :: σ) [] h1 hall (by simpa using hW) hl ih
   have h3 := merge_l1 W ((c :: σ).map cA ++ pa) ((c :: σ).map cU ++ pu) o _ (c :: σ) [] pa pu 0 1099511627776 (fun y hy => ⟨(hall y hy).1, (hall y hy).2.1⟩) (by simpa using hW) rfl rfl hl (Ev.congr (fun k => by rw [show ([] : List (List S61 × List S61 × Int)).length = 0 from rfl, hj, Option.bind_some]; rfl) h2)
   refine Ev.step (fun k => ?_) h3
   simp only [capture_merge.l0]
   rw [if_pos lA, if_pos lW, rA, rW, if_pos (by
    obtain ⟨p, q, u⟩ := c
    cases q with
    | nil => exact absurd rfl hq
    | cons x q =>
     simp only [cA, cW, List.length_append, List.length_cons]
     omega)]
   rfl
def ini (w : List S61) : List S61 × List S61 × Int := ([], w, 0)
theorem map_iniR (ws : List (List S61)) : (ws.map ini).map cR = ws := by
 rw [List.map_map, List.map_congr_left (g := id) (fun y _ => by show shr1 0 y = y; exact shr1_zero y), List.map_id]
theorem map_iniW (ws : List (List S61)) : (ws.map ini).map cW = ws := by
 rw [List.map_map, List.map_congr_left (g := id) (fun y _ => by show cW (ini y) = y; rfl), List.map_id]
theorem pad16 {α : Type} (ws : List α) (h : ws.length ≤ 16) : List.replicate 16 (0 : Int) = ws.map (fun _ => 0) ++ List.replicate (16 - ws.length) 0 := by
 rw [List.map_const', List.replicate_append_replicate, show ws.length + (16 - ws.length) = 16 by omega]
def WavesOk (T : Int) (ws : List (List S61)) : Prop := ∀ w ∈ ws, w.length ≤ 262144 ∧ Tk w ∧ sm w = T
theorem merge_ev {ws : List (List S61)} {T : Int} (h16 : ws.length ≤ 16) (hne : ws ≠ []) (hT : 0 ≤ T ∧ T ≤ 1099511627776) (h : WavesOk T ws) : Ev (fun k => capture_merge.f k ws) (mrg T.toNat [] ws) := by
 have h0 := merge_l0 ws (by omega) (List.replicate (16 - ws.length) 0) (List.replicate (16 - ws.length) 0) T.toNat (ws.map ini) [] T (by omega) hT.1 (map_iniW ws).symm (by simpa using hne) (by rw [map_iniR]; exact fun w hw => ⟨(h w hw).2.1, (h w hw).2.2⟩) (fun c hc => by
   obtain ⟨w, hw, rfl⟩ := List.mem_map.1 hc
   have hh := h w hw
   refine ⟨?_, hh.1, hh.2.1, by show sm w ≤ _; omega⟩
   cases w with
   | nil => rfl
   | cons x l =>
    have h1 := hh.2.1.cons
    have h2 := leT_sm hh.2.1 x (by simp)
    show 0 ≤ (0 : Int) ∧ 0 < x.f1 ∧ x.f1 ≤ 1099511627776
    omega) (fun y hy => by simp at hy) (by simp only [sm]; omega) (by simp only [List.length_nil]; omega)
 rw [map_iniR] at h0
 refine Ev.congr (fun k => ?_) h0
 unfold capture_merge.f
 rw [if_pos (by omega), pad16 ws h16, List.map_map, List.map_map]
 rfl
def allV (ws : List (List S61)) : Bool := ws.all vld
def allS (t : Int) (ws : List (List S61)) : Bool := ws.all (fun w => decide (sm w = t))
def WWf (ws : List (List S61)) : Prop := ∀ w ∈ ws, RunsWf w ∧ w.length ≤ 140737488351232
theorem vld_ok {w : List S61} (h : vld w = true) : w.length ≤ 262144 ∧ Tk w ∧ 0 ≤ sm w ∧ sm w ≤ 1099511627776 := by
 have h1 := vld_iff.1 h
 have h2 : Tk w := fun y hy => (h1.2.1 y hy).2
 exact ⟨h1.1, h2, smT_nonneg h2, h1.2.2⟩
theorem checkWaves_l1 (w0 : List S61) (ws : List (List S61)) (h0 : vld w0 = true) (hw0 : RunsWf w0) (hWs : rd_L4 ws 0 = w0) (hpos : 0 < ws.length) : ∀ (post pre : List (List S61)), WWf post → allV post = true → (pre ++ post).length ≤ 262144 →
  Ev (fun k => capture_checkWaves.l1 k ws (pre ++ post) ((pre ++ post).length : Int) (pre.length : Int)) (if allS (sm w0) post = true then 0 else 17)
 | [], pre, hw, hv, hl => by
  refine Ev.step (f := fun _ => some 0) (fun k => ?_) (Ev.now _)
  simp only [capture_checkWaves.l1]
  rw [if_neg (by simp)]
 | x :: post, pre, hw, hv, hl => by
  have hx := hw x (by simp)
  have hvx : vld x = true ∧ allV post = true := by
   unfold allV at hv
   rw [List.all_cons, Bool.and_eq_true] at hv
   exact hv
  have hlt := midl_lt pre post x
  have hn : pre.length ≤ 262144 := by
   simp only [List.length_append] at hl
   omega
  have o0 := vld_ok h0
  have e1 : longV x = sm x := if_pos hvx.1
  have e2 : longV w0 = sm w0 := if_pos h0
  have l1 := wave_Long_ev hx.1 hx.2
  have l0 := wave_Long_ev hw0 (by have := o0.1; omega)
  rw [e1] at l1
  rw [e2] at l0
  have ih := checkWaves_l1 w0 ws h0 hw0 hWs hpos post (pre ++ [x]) (fun y hy => hw y (by simp [hy])) hvx.2 (by simpa using hl)
  rw [← mid_snoc] at ih
  refine Ev.step (f := fun k => (wave_Long.f k x).bind fun t134 => (wave_Long.f k w0).bind fun t136 => if t134 = t136 then capture_checkWaves.l1 k ws (pre ++ x :: post) ((pre ++ x :: post).length : Int) ((pre ++ [x]).length : Int) else some 17) (fun k => ?_) (Ev.bind l1 (Ev.bind l0 ?_))
  ·simp only [capture_checkWaves.l1]
   rw [if_pos hlt, if_pos (Int.natCast_nonneg _), if_pos hlt, rdl_mid, succ_mid _ _ (by omega), hWs]
   refine congrArg _ (funext fun _ => ?_)
   rw [if_pos (by omega)]
  ·by_cases c : sm x = sm w0
   ·have e : allS (sm w0) (x :: post) = allS (sm w0) post := by
     unfold allS
     rw [List.all_cons, decide_eq_true c, Bool.true_and]
    rw [e]
    exact Ev.congr (fun k => if_pos c) ih
   ·have e : allS (sm w0) (x :: post) = false := by
     unfold allS
     rw [List.all_cons, decide_eq_false c, Bool.false_and]
    rw [e]
    exact Ev.congr (fun k => if_neg c) (Ev.now _)
theorem checkWaves_l0 (ws : List (List S61)) (R : Int) : ∀ (post pre : List (List S61)), WWf post → (pre ++ post).length ≤ 262144 → (allV post = true → Ev (fun k => capture_checkWaves.l1 k ws ws (ws.length : Int) 0) R) →
  Ev (fun k => capture_checkWaves.l0 k ws (pre ++ post) ((pre ++ post).length : Int) (pre.length : Int)) (if allV post = true then R else 1)
 | [], pre, hw, hl, h => by
  have h' := h rfl
  refine Ev.step (fun k => ?_) h'
  simp only [capture_checkWaves.l0]
  rw [if_neg (by simp)]
 | x :: post, pre, hw, hl, h => by
  have hx := hw x (by simp)
  have hlt := midl_lt pre post x
  have hn : pre.length ≤ 262144 := by
   simp only [List.length_append] at hl
   omega
  refine Ev.step (f := fun k => (wave_Valid.f k x).bind fun t132 => if t132 = true then capture_checkWaves.l0 k ws (pre ++ x :: post) ((pre ++ x :: post).length : Int) ((pre ++ [x]).length : Int) else some 1) (fun k => ?_) (Ev.bind (wave_Valid_ev hx.1 hx.2) ?_)
  ·simp only [capture_checkWaves.l0]
   rw [if_pos hlt, if_pos (Int.natCast_nonneg _), if_pos hlt, rdl_mid, succ_mid _ _ (by omega)]
  ·have e0 : allV (x :: post) = (vld x && allV post) := List.all_cons
   by_cases c : vld x = true
   ·have e : allV (x :: post) = allV post := by rw [e0, c, Bool.true_and]
    have ih := checkWaves_l0 ws R post (pre ++ [x]) (fun y hy => hw y (by simp [hy])) (by simpa using hl) (fun hp => h (by rw [e]; exact hp))
    rw [← mid_snoc] at ih
    rw [e]
    exact Ev.congr (fun k => if_pos c) ih
   ·have e : allV (x :: post) = false := by
     rw [e0]
     cases hv : vld x
     ·rfl
     ·exact absurd hv c
    rw [e]
    exact Ev.congr (fun k => if_neg c) (Ev.now _)
def cwV (ws : List (List S61)) : Int := if allV ws = true then (if allS (sm (ws.headD [])) ws = true then 0 else 17) else 1
theorem checkWaves_ev {l : List ByteArray} {ws : List (List S61)} (hw : WWf ws) (hl : ws.length ≤ 262144) (e : ws.length = l.length) (hpos : 0 < ws.length) : Ev (fun k => capture_checkWaves.f k l ws) (cwV ws) := by
 have h := checkWaves_l0 ws (if allS (sm (ws.headD [])) ws = true then 0 else 17) ws [] hw hl (fun hv => by
  cases ws with
  | nil => simp at hpos
  | cons w0 t =>
   have h0 : vld w0 = true := by
    unfold allV at hv
    rw [List.all_cons, Bool.and_eq_true] at hv
    exact hv.1
   exact checkWaves_l1 w0 (w0 :: t) h0 (hw w0 (by simp)).1 (by simp [rd_L4, List.getD]) (by simp) (w0 :: t) [] hw hv hl)
 refine Ev.congr (fun k => ?_) h
 unfold capture_checkWaves.f
 rw [if_pos (by omega)]
 rfl
def bldV (l : List ByteArray) (ws : List (List S61)) : List ByteArray × List S61 × Int :=
 if nmsV l = 0 then (if ws.length = l.length then (if cwV ws = 0 then (if 262144 < (mrg (sm (ws.headD [])).toNat [] ws).length then ([], [], 6) else (l, mrg (sm (ws.headD [])).toNat [] ws, 0)) else ([], [], cwV ws)) else ([], [], 1)) else ([], [], nmsV l)
theorem nms_0 {l : List ByteArray} (h : nmsV l = 0) : l.length ≤ 16 ∧ 0 < l.length := by
 unfold nmsV at h
 by_cases c : 16 < l.length
 ·rw [if_pos c] at h
  omega
 ·rw [if_neg c] at h
  by_cases c1 : l.length = 0
  ·rw [if_pos c1] at h
   omega
  ·omega
theorem nms_6 {l : List ByteArray} (h : 16 < l.length) : nmsV l = 6 := by
 unfold nmsV
 rw [if_pos h]
theorem cw_0 {ws : List (List S61)} (h : cwV ws = 0) : WavesOk (sm (ws.headD [])) ws ∧ (∀ w ∈ ws, vld w = true) := by
 unfold cwV at h
 by_cases c : allV ws = true
 ·rw [if_pos c] at h
  by_cases c1 : allS (sm (ws.headD [])) ws = true
  ·have h1 : ∀ w ∈ ws, vld w = true := List.all_eq_true.1 c
   have h2 : ∀ w ∈ ws, decide (sm w = sm (ws.headD [])) = true := List.all_eq_true.1 c1
   exact ⟨fun w hw => ⟨(vld_ok (h1 w hw)).1, (vld_ok (h1 w hw)).2.1, of_decide_eq_true (h2 w hw)⟩, h1⟩
  ·rw [if_neg c1] at h
   omega
 ·rw [if_neg c] at h
  omega
theorem head_ok {ws : List (List S61)} (hpos : 0 < ws.length) (h : ∀ w ∈ ws, vld w = true) : 0 ≤ sm (ws.headD []) ∧ sm (ws.headD []) ≤ 1099511627776 := by
 cases ws with
 | nil => simp at hpos
 | cons w t => exact (vld_ok (h w (by simp))).2.2
theorem Build_ev {l : List ByteArray} {ws : List (List S61)} (hs : StrsOk l) (hw : WWf ws) (hl : l.length ≤ 140737488351232) (hwl : ws.length ≤ 140737488351232) : Ev (fun k => capture_Build.f k l ws) (bldV l ws) := by
 unfold bldV
 by_cases c16 : 16 < l.length
 ·rw [nms_6 c16, if_neg (by decide)]
  refine Ev.congr (fun k => ?_) (Ev.now _)
  unfold capture_Build.f
  rw [if_pos (by omega)]
 ·refine Ev.congr (fun k => by unfold capture_Build.f; exact if_neg (by omega)) (Ev.bind (checkNames_ev hs hl (by omega)) ?_)
  by_cases c : nmsV l = 0
  ·rw [if_pos c]
   refine Ev.congr (fun k => if_pos c) ?_
   have hn := nms_0 c
   by_cases cl : ws.length = l.length
   ·rw [if_pos cl]
    refine Ev.bind (checkWaves_ev hw (by omega) cl (by omega)) ?_
    by_cases cw : cwV ws = 0
    ·rw [if_pos cw]
     have hk := cw_0 cw
     refine Ev.congr (fun k => if_pos cw) (Ev.bind (merge_ev (by omega) (by intro e; rw [e] at cl; simp at cl; omega) (head_ok (by omega) hk.2) hk.1) ?_)
     by_cases c6 : 262144 < (mrg (sm (ws.headD [])).toNat [] ws).length
     ·rw [if_pos c6]
      exact Ev.congr (fun k => if_pos (by omega)) (Ev.now _)
     ·rw [if_neg c6]
      refine Ev.congr (fun k => (if_neg (by omega)).trans ?_) (Ev.now _)
      unfold slices_Clone_string.f
      rw [if_pos (by omega)]
      rfl
    ·rw [if_neg cw]
     exact Ev.congr (fun k => if_neg cw) (Ev.now _)
   ·rw [if_neg cl]
    have h1 : Ev (fun k => capture_checkWaves.f k l ws) 1 := by
     refine Ev.congr (fun k => ?_) (Ev.now _)
     unfold capture_checkWaves.f
     rw [if_neg (by omega)]
    exact Ev.bind h1 (Ev.congr (fun k => if_neg (by decide)) (Ev.now _))
  ·rw [if_neg c]
   exact Ev.congr (fun k => if_neg c) (Ev.now _)
theorem ixS_app (s : ByteArray) (post : List ByteArray) : ∀ (pre : List ByteArray) (n : Nat), ixS s n pre < 0 → ixS s n (pre ++ post) = ixS s (n + pre.length) post
 | [], n, h => rfl
 | t :: pre, n, h => by
  by_cases c : s.toList = t.toList
  ·unfold ixS at h
   rw [if_pos c] at h
   omega
  ·unfold ixS at h
   rw [if_neg c] at h
   have ih := ixS_app s post pre (n + 1) h
   rw [List.cons_append, ixS, if_neg c, ih, List.length_cons, show n + 1 + pre.length = n + (pre.length + 1) by omega]
theorem ixS_own {pre post : List ByteArray} {x : ByteArray} (h : dupS pre (x :: post) = false) : ixS x 0 (pre ++ x :: post) = (pre.length : Int) ∧ dupS (pre ++ [x]) post = false := by
 unfold dupS at h
 by_cases c : ixS x 0 pre ≥ 0
 ·rw [if_pos c] at h
  cases h
 ·rw [if_neg c] at h
  refine ⟨?_, h⟩
  rw [ixS_app x _ pre 0 (by omega), Nat.zero_add, ixS, if_pos rfl]
theorem nms_dup {l : List ByteArray} (h : nmsV l = 0) : dupS [] l = false := by
 have h1 := nms_0 h
 unfold nmsV at h
 rw [if_neg (by omega), if_neg (by omega)] at h
 by_cases c : nmA l = true
 ·rw [if_pos c] at h
  cases e : dupS [] l
  ·rfl
  ·rw [e] at h
   simp at h
 ·rw [if_neg c] at h
  omega
theorem chs_snoc : ∀ (n i : Nat) (c : List S61), chs i n c ++ [chR ((i + n : Nat) : Int) c] = chs i (n + 1) c
 | 0, i, c => rfl
 | n + 1, i, c => by
  have ih := chs_snoc n (i + 1) c
  rw [show i + 1 + n = i + (n + 1) by omega] at ih
  rw [chs, List.cons_append, ih]
  rfl
theorem chs_len : ∀ (n i : Nat) (c : List S61), (chs i n c).length = n
 | 0, i, c => rfl
 | n + 1, i, c => by rw [chs, List.length_cons, chs_len n (i + 1) c]
theorem pre1_ok {m : Int} {x : S61} {L : List S61} (h : RunsM m L) (hx : 0 ≤ x.f0 ∧ x.f0 ≤ m ∧ 1 ≤ x.f1) : RunsM m (pre1 x L) := by
 cases L with
 | nil =>
  intro y hy
  simp only [pre1, List.mem_singleton] at hy
  subst hy
  exact hx
 | cons z zs =>
  have hz := h.cons
  rw [pre1_cons]
  by_cases c : z.f0 = x.f0
  ·rw [if_pos c]
   intro y hy
   rcases List.mem_cons.1 hy with rfl | hy
   ·exact ⟨hx.1, hx.2.1, by show 1 ≤ x.f1 + z.f1; omega⟩
   ·exact hz.2 y hy
  ·rw [if_neg c]
   intro y hy
   rcases List.mem_cons.1 hy with rfl | hy
   ·exact hx
   ·exact h y hy
theorem clR_ok {m : Int} : ∀ {l : List S61}, RunsM m l → RunsM m (clR l)
 | [], h => h
 | x :: l, h => pre1_ok (clR_ok h.cons.2) h.cons.1
theorem bit_01 {v i : Int} (hv : 0 ≤ v ∧ v < 65536) (hi : 0 ≤ i ∧ i < 64) : 0 ≤ bit v i ∧ bit v i ≤ 1 := by
 obtain ⟨a, rfl⟩ := Int.eq_ofNat_of_zero_le hv.1
 obtain ⟨k, rfl⟩ := Int.eq_ofNat_of_zero_le hi.1
 rw [bitN (by omega) (by omega)]
 cases a.testBit k <;> simp
theorem chR_ok {m i : Int} (hm : m < 65536) (hi : 0 ≤ i ∧ i < 64) : ∀ {l : List S61}, RunsM m l → RunsM 1 (chR i l)
 | [], h => fun y hy => by simp [chR] at hy
 | x :: l, h => by
  have hx := h.cons
  have hb := bit_01 (v := x.f0) (i := i) (by omega) hi
  exact pre1_ok (chR_ok hm hi hx.2) ⟨hb.1, hb.2, hx.1.2.2⟩
theorem pre1_len (x : S61) (L : List S61) : (pre1 x L).length ≤ L.length + 1 := by
 cases L with
 | nil => simp [pre1]
 | cons z zs =>
  rw [pre1_cons]
  by_cases c : z.f0 = x.f0
  ·rw [if_pos c]
   simp
  ·rw [if_neg c]
   simp
theorem clR_len : ∀ (l : List S61), (clR l).length ≤ l.length
 | [] => Nat.le_refl _
 | x :: l => by
  have := pre1_len x (clR l)
  have := clR_len l
  simp only [clR, List.length_cons]
  omega
theorem chR_len (i : Int) : ∀ (l : List S61), (chR i l).length ≤ l.length
 | [] => Nat.le_refl _
 | x :: l => by
  have := pre1_len ⟨bit x.f0 i, x.f1⟩ (chR i l)
  have := chR_len i l
  simp only [chR, List.length_cons]
  omega
theorem smT_len : ∀ {l : List S61}, Tk l → (l.length : Int) ≤ sm l
 | [], _ => Int.le_refl _
 | x :: l, h => by
  have h1 := h.cons
  have h2 := smT_len h1.2
  simp only [sm, List.length_cons]
  omega
theorem mk_pow {l : List ByteArray} (h : l.length ≤ 16) : mk l < 2 ^ l.length := by
 obtain ⟨n, hn⟩ : ∃ n, n = l.length := ⟨_, rfl⟩
 unfold mk
 rw [← hn] at h ⊢
 clear hn
 have : ∀ n : Fin 17, wrap64 ((shl .i64 1 ((n.val : Nat) : Int)) - 1) < 2 ^ n.val := by decide +kernel
 exact this ⟨n, by omega⟩
theorem vld_of1 {w : List S61} (h : RunsM 1 w) (hl : w.length ≤ 262144) (hs : sm w ≤ 1099511627776) : vld w = true :=
 vld_iff.2 ⟨hl, fun y hy => by have := h y hy; omega, hs⟩
/-- What the channels of clean runs build. -/
theorem bldV_chs {l : List ByteArray} {r : List S61} (hc : chkV l r = 0) : bldV l (chs 0 l.length (clR r)) = (l, clR r, 0) := by
 have h := chk_0 hc
 have hn := nms_0 h.2.1
 have hk := mk_le hn.1
 have hok := clR_ok h.2.2.1
 have hlen := clR_len r
 have hv : ∀ w ∈ chs 0 l.length (clR r), vld w = true ∧ sm w = sm r := fun w hw => by
  obtain ⟨k, h1, h2, rfl⟩ := (mem_chs _ _ _ _).1 hw
  have h3 := chR_len (k : Int) (clR r)
  refine ⟨vld_of1 (chR_ok (m := mk l) (by omega) (by omega) hok) (by omega) (by rw [chR_sm, clR_sm]; exact h.2.2.2), by rw [chR_sm, clR_sm]⟩
 have hh : sm ((chs 0 l.length (clR r)).headD []) = sm r := by
  obtain ⟨n, en⟩ : ∃ n, l.length = n + 1 := ⟨l.length - 1, by omega⟩
  rw [en]
  show sm (chR _ (clR r)) = _
  rw [chR_sm, clR_sm]
 have hcw : cwV (chs 0 l.length (clR r)) = 0 := by
  unfold cwV
  rw [hh, if_pos (by unfold allV; exact List.all_eq_true.2 (fun w hw => (hv w hw).1)), if_pos (by unfold allS; exact List.all_eq_true.2 (fun w hw => decide_eq_true (hv w hw).2))]
 have htk : Tk (clR r) := hok.tk
 have hsl := smT_len htk
 rw [clR_sm] at hsl
 have hp := mk_pow hn.1
 have hm : mrg (sm r).toNat [] (chs 0 l.length (clR r)) = clR r := by
  rw [mrg_chs (by omega) hn.1 (clR r) [] (sm r).toNat (by omega) htk (by rw [clR_sm]; exact h.2.2.2) (fun z hz => by have := hok z hz; omega) (apR_clR r), cln_eq, clR_clR]
 unfold bldV
 rw [if_pos h.2.1, if_pos (chs_len _ _ _), if_pos hcw, hh, hm, if_neg (by omega)]
theorem eqRV_refl (a : List S61) : eqRV a a = true := by
 unfold eqRV
 rw [if_pos rfl]
 exact eqR_refl a
theorem eqSV_refl (a : List ByteArray) : eqSV a a = true := by
 unfold eqSV
 rw [if_pos rfl]
 exact eqS_refl a
theorem Insert_put_l0 : ∀ (post pre o : List S61), Tk o → Tk post → sm o + sm post ≤ 4398046511104 → (pre ++ post).length ≤ 262144 → o.length + post.length ≤ 4398046511104 →
  Ev (fun k => glitch_Insert_put.l0 k (pre ++ post) ((pre ++ post).length : Int) (pre.length : Int) o) (cln o post)
 | [], pre, o, h0, h1, hs, hl, ho => by
  refine Ev.step (f := fun _ => some o) (fun k => ?_) (Ev.now _)
  simp only [glitch_Insert_put.l0]
  rw [if_neg (by simp)]
 | x :: post, pre, o, h0, h1, hs, hl, ho => by
  have hx := h1.cons
  have h2 := smT_nonneg hx.2
  have h3 := smT_nonneg h0
  simp only [sm] at hs
  simp only [List.length_cons] at ho
  have hlt := mid_lt pre post x
  have hn : pre.length ≤ 9223372036854775806 := by
   simp only [List.length_append, List.length_cons] at hl
   omega
  have ih := Insert_put_l0 post (pre ++ [x]) (putR o x.f0 x.f1) (putR_tk h0 hx.1) hx.2 (by rw [putR_sm]; omega) (by simpa using hl) (by have := putR_len o x.f0 x.f1; omega)
  rw [← mid_snoc] at ih
  have ex := succ_mid pre x hn
  have hb1 : sm o + x.f1 ≤ 4398046511104 := by omega
  clear hl hs h1
  refine Ev.step (fun k => ?_) ih
  simp only [glitch_Insert_put.l0]
  rw [rd_mid, if_pos hlt, if_pos (Int.natCast_nonneg _), if_pos hlt, ex]
  rcases snoc_cases o with rfl | ⟨q, y, rfl⟩
  ·rw [if_neg (by simp), if_pos (by simp), putR_nil]
   rfl
  ·have hy := leT_sm h0 y (by simp)
   have hql : (q.length : Int) < ((q ++ [y]).length : Int) := mid_lt q [] y
   have hqs : ((q ++ [y]).length : Int) > 0 := by omega
   have el := last_at q y (by simp only [List.length_append, List.length_cons, List.length_nil] at ho; omega)
   rw [el, rd_last, if_pos hqs, if_pos (Int.natCast_nonneg _), if_pos hql]
   by_cases c : y.f0 = x.f0
   ·rw [if_pos c, set_last, ← c, putR_same]
    rw [w64 (x := y.f1 + x.f1) (by omega) (by omega)]
   ·rw [if_neg c, if_pos (by omega), putR_new q y c]
theorem Insert_put_ev {part o : List S61} (h0 : Tk o) (h1 : Tk part) (hs : sm o + sm part ≤ 4398046511104) (hl : part.length ≤ 262144) (ho : o.length + part.length ≤ 4398046511104) : Ev (fun k => glitch_Insert_put.f k part o) (cln o part) :=
 Ev.congr (fun k => rfl) (Insert_put_l0 part [] o h0 h1 hs (by simpa using hl) ho)
theorem cln_jnc : ∀ (l q : List S61) (y : S61), cln (q ++ [y]) l = q ++ jnc y l
 | [], q, y => rfl
 | x :: l, q, y => by
  unfold cln jnc
  by_cases c : y.f0 = x.f0
  ·rw [← c, putR_same, cln_jnc l q, if_pos rfl]
  ·rw [putR_new q y c, cln_jnc l (q ++ [y]), if_neg c, List.append_assoc]
   rfl
theorem cln_jn (l : List S61) : cln [] l = jn l := by
 cases l with
 | nil => rfl
 | cons x l =>
  show cln (putR [] x.f0 x.f1) l = _
  rw [putR_nil]
  exact cln_jnc l [] _
theorem cln_app : ∀ (a b o : List S61), cln o (a ++ b) = cln (cln o a) b
 | [], b, o => rfl
 | x :: a, b, o => by
  show cln (putR o x.f0 x.f1) (a ++ b) = _
  rw [cln_app a b]
  rfl
theorem cln_tk : ∀ (l : List S61) {o : List S61}, Tk o → Tk l → Tk (cln o l)
 | [], o, h, _ => h
 | x :: l, o, h, h1 => cln_tk l (putR_tk h h1.cons.1) h1.cons.2
theorem cln_sm : ∀ (l o : List S61), sm (cln o l) = sm o + sm l
 | [], o => by simp [cln, sm]
 | x :: l, o => by
  show sm (cln (putR o x.f0 x.f1) l) = _
  rw [cln_sm l, putR_sm, sm]
  omega
/-- The three parts: before, inverted, behind. -/
def insL (l : List S61) (a t : Int) : List S61 := slF 0 a 0 l ++ ((slF a (a + t) 0 l).map invR ++ slF (a + t) (sm l) 0 l)
def insV (l : List S61) (a t : Int) : List S61 × Int :=
 if vld l = true then (if a < 0 ∨ sm l < a ∨ t < 1 ∨ sm l - a < t then ([], 2) else if 262144 < (jn (insL l a t)).length then ([], 6) else (jn (insL l a t), 0)) else ([], 1)
theorem RunsOk.tk {l : List S61} (h : RunsOk l) : Tk l := fun y hy => (h y hy).2
theorem slF_sm : ∀ (l : List S61) (a b at_ : Int), RunsOk l → sm (slF a b at_ l) = if mx at_ a < mn (at_ + sm l) b then mn (at_ + sm l) b - mx at_ a else 0
 | [], a, b, at_, hw => by
  rw [if_neg (by
   simp only [sm]
   unfold mx mn
   split <;> split <;> omega)]
  rfl
 | x :: l, a, b, at_, hw => by
  have hx := hw.cons
  have hs := sm_nonneg hx.2
  have ih := slF_sm l a b (at_ + x.f1) hx.2
  unfold slF
  by_cases c : mx at_ a < mn (at_ + x.f1) b
  ·rw [if_pos c]
   simp only [sm]
   rw [ih]
   unfold mx mn at *
   repeat' split
   all_goals first | omega | (simp only [sm] at *; omega)
  ·rw [if_neg c, ih]
   simp only [sm]
   unfold mx mn at *
   repeat' split
   all_goals first | omega | (simp only [sm] at *; omega)
theorem slF_at : ∀ (l : List S61) (a b at_ u : Int), RunsOk l → 0 ≤ u → atS (slF a b at_ l) u = if u + mx at_ a < mn (at_ + sm l) b then atS l (u + mx at_ a - at_) else (-1, false)
 | [], a, b, at_, u, hw, hu => by
  rw [if_neg (by
   simp only [sm]
   unfold mx mn
   split <;> split <;> omega)]
  rfl
 | x :: l, a, b, at_, u, hw, hu => by
  have hx := hw.cons
  have hs := sm_nonneg hx.2
  unfold slF
  rw [sm_cons, atS_cons]
  by_cases c : mx at_ a < mn (at_ + x.f1) b
  ·rw [if_pos c, atS_cons]
   show (if u < mn (at_ + x.f1) b - mx at_ a then (x.f0, true) else atS (slF a b (at_ + x.f1) l) (u - (mn (at_ + x.f1) b - mx at_ a))) = _
   by_cases c1 : u < mn (at_ + x.f1) b - mx at_ a
   ·rw [if_pos c1, if_pos (by unfold mx mn at *; split at c1 <;> split at c1 <;> split <;> omega), if_pos (by unfold mx mn at *; split at c1 <;> split at c1 <;> omega)]
   ·rw [if_neg c1, slF_at l a b (at_ + x.f1) _ hx.2 (by omega)]
    by_cases c2 : b ≤ at_ + x.f1
    ·rw [if_neg (by unfold mx mn at *; split at c1 <;> split at c1 <;> split <;> split <;> omega), if_neg (by unfold mx mn at *; split at c1 <;> split at c1 <;> split <;> omega)]
    ·have e1 : mn (at_ + x.f1) b = at_ + x.f1 := by unfold mn; split <;> omega
     have e2 : mx (at_ + x.f1) a = at_ + x.f1 := by
      rw [e1] at c
      unfold mx at c ⊢
      split at c <;> split <;> omega
     rw [e1] at c c1 ⊢
     rw [e2, show u - (at_ + x.f1 - mx at_ a) + (at_ + x.f1) = u + mx at_ a by omega, show at_ + x.f1 + sm l = at_ + (x.f1 + sm l) by omega]
     by_cases c3 : u + mx at_ a < mn (at_ + (x.f1 + sm l)) b
     ·rw [if_pos c3, if_pos c3, if_neg (by omega), show u + mx at_ a - (at_ + x.f1) = u + mx at_ a - at_ - x.f1 by omega]
     ·rw [if_neg c3, if_neg c3]
  ·rw [if_neg c, slF_at l a b (at_ + x.f1) u hx.2 hu, show at_ + x.f1 + sm l = at_ + (x.f1 + sm l) by omega]
   by_cases c2 : b ≤ mx at_ a
   ·rw [if_neg (by unfold mx mn at *; split at c2 <;> split <;> split <;> omega), if_neg (by unfold mx mn at *; split at c2 <;> split <;> omega)]
   ·have e1 : mx at_ a = a ∧ at_ + x.f1 ≤ a := by
     unfold mx mn at *
     split at c <;> split at c <;> split at c2 <;> constructor <;> first | omega | (split <;> omega)
    have e2 : mx (at_ + x.f1) a = a := by
     unfold mx
     split <;> omega
    rw [e1.1, e2]
    by_cases c3 : u + a < mn (at_ + (x.f1 + sm l)) b
    ·rw [if_pos c3, if_pos c3, if_neg (by omega), show u + a - (at_ + x.f1) = u + a - at_ - x.f1 by omega]
    ·rw [if_neg c3, if_neg c3]
theorem invL_ok {l : List S61} (h : RunsOk l) : RunsOk (l.map invR) := by
 intro x hx
 obtain ⟨y, hy, rfl⟩ := List.mem_map.1 hx
 have := h y hy
 show (1 - y.f0 = 0 ∨ 1 - y.f0 = 1) ∧ 1 ≤ y.f1
 omega
theorem parts_sm {l : List S61} {a t : Int} (hw : RunsOk l) (h : ¬ (a < 0 ∨ sm l < a ∨ t < 1 ∨ sm l - a < t)) : sm (slF 0 a 0 l) = a ∧ sm (slF a (a + t) 0 l) = t ∧ sm (slF (a + t) (sm l) 0 l) = sm l - (a + t) := by
 refine ⟨?_, ?_, ?_⟩
 ·rw [slF_sm l _ _ _ hw]
  unfold mx mn
  repeat' split
  all_goals omega
 ·rw [slF_sm l _ _ _ hw]
  unfold mx mn
  repeat' split
  all_goals omega
 ·rw [slF_sm l _ _ _ hw]
  unfold mx mn
  repeat' split
  all_goals omega
theorem insL_ok {l : List S61} (a t : Int) (hw : RunsOk l) : RunsOk (insL l a t) := (slF_ok hw).append ((invL_ok (slF_ok hw)).append (slF_ok hw))
theorem insL_sm {l : List S61} {a t : Int} (hw : RunsOk l) (h : ¬ (a < 0 ∨ sm l < a ∨ t < 1 ∨ sm l - a < t)) : sm (insL l a t) = sm l := by
 have hp := parts_sm hw h
 unfold insL
 rw [sm_append, sm_append, inv_sm, hp.1, hp.2.1, hp.2.2]
 omega
theorem RunsOk.m1 {l : List S61} (h : RunsOk l) : RunsM 1 l := fun y hy => by
 have := h y hy
 omega
theorem atS_far {l : List S61} {u : Int} (hw : RunsOk l) (h : sm l ≤ u) : atS l u = (-1, false) := atS_out hw.m1 h
def flipA (p : Int × Bool) : Int × Bool := if p.2 = true then (1 - p.1, true) else (-1, false)
theorem insL_at {l : List S61} {a t u : Int} (hw : RunsOk l) (h : ¬ (a < 0 ∨ sm l < a ∨ t < 1 ∨ sm l - a < t)) (hu : 0 ≤ u) : atS (insL l a t) u = if a ≤ u ∧ u < a + t then flipA (atS l u) else atS l u := by
 have hp := parts_sm hw h
 have s1 : RunsOk (slF 0 a 0 l) := slF_ok hw
 have s2 : RunsOk (slF a (a + t) 0 l) := slF_ok hw
 have i2 := inv_sm (slF a (a + t) 0 l)
 unfold insL
 rw [atS_append _ _ s1.m1 hu, hp.1]
 by_cases c : u < a
 ·rw [if_pos c, if_neg (by omega), slF_at l _ _ _ _ hw hu]
  have e1 : mx 0 0 = 0 := by decide
  have e2 : mn (0 + sm l) a = a := by unfold mn; split <;> omega
  rw [e1, e2, if_pos (by omega), show u + 0 - 0 = u by omega]
 ·rw [if_neg c, atS_append _ _ (invL_ok s2).m1 (by omega), i2, hp.2.1]
  by_cases c1 : u - a < t
  ·have e1 : mx 0 a = a := by unfold mx; split <;> omega
   have e2 : mn (0 + sm l) (a + t) = a + t := by unfold mn; split <;> omega
   have eS : atS (slF a (a + t) 0 l) (u - a) = atS l u := by
    rw [slF_at l _ _ _ _ hw (by omega), e1, e2, if_pos (by omega), show u - a + a - 0 = u by omega]
   rw [if_pos c1, if_pos (by omega), inv_at, eS]
   rfl
  ·rw [if_neg c1, if_neg (by omega), slF_at l _ _ _ _ hw (by omega)]
   have e1 : mx 0 (a + t) = a + t := by unfold mx; split <;> omega
   have e2 : mn (0 + sm l) (sm l) = sm l := by unfold mn; split <;> omega
   rw [e1, e2]
   by_cases c2 : u < sm l
   ·rw [if_pos (by omega), show u - a - t + (a + t) - 0 = u by omega]
   ·rw [if_neg (by omega), atS_far hw (by omega)]
theorem ext_apart : ∀ (a b : List S61), RunsOk a → RunsOk b → apart a → apart b → (∀ u, 0 ≤ u → atS a u = atS b u) → a = b
 | [], [], _, _, _, _, _ => rfl
 | [], y :: b, _, hb, _, _, h => by
  have h0 := h 0 (by omega)
  have hy := hb.cons
  rw [atS_cons, if_pos (by omega)] at h0
  simp [atS] at h0
 | x :: a, [], ha, _, _, _, h => by
  have h0 := h 0 (by omega)
  have hx := ha.cons
  rw [atS_cons, if_pos (by omega)] at h0
  simp [atS] at h0
 | x :: a, y :: b, ha, hb, pa, pb, h => by
  have hx := ha.cons
  have hy := hb.cons
  have next : ∀ {z : S61} {c : List S61}, RunsOk c → apart (z :: c) → ∀ w, atS c 0 ≠ (z.f0, w) ∨ w = false := by
   intro z c hc pc w
   cases c with
   | nil =>
    cases w
    ·exact .inr rfl
    ·exact .inl (by simp [atS])
   | cons v c =>
    have hv := hc.cons
    left
    rw [atS_cons, if_pos (by omega)]
    intro e
    have : v.f0 = z.f0 := congrArg Prod.fst e
    exact pc.1 this.symm
  have h0 := h 0 (by omega)
  rw [atS_cons, atS_cons, if_pos (by omega), if_pos (by omega)] at h0
  have e0 : x.f0 = y.f0 := congrArg Prod.fst h0
  have e1 : x.f1 = y.f1 := by
   rcases Int.lt_trichotomy x.f1 y.f1 with c | c | c
   ·have h1 := h x.f1 (by omega)
    rw [atS_cons, atS_cons, if_neg (by omega), if_pos c, Int.sub_self, ← e0] at h1
    rcases next hx.2 pa true with k | k
    ·exact absurd h1 k
    ·cases k
   ·exact c
   ·have h1 := h y.f1 (by omega)
    rw [atS_cons, atS_cons, if_pos c, if_neg (by omega), Int.sub_self, e0] at h1
    rcases next hy.2 pb true with k | k
    ·exact absurd h1.symm k
    ·cases k
  have pa' : apart a := by
   cases a with
   | nil => trivial
   | cons v a => exact pa.2
  have pb' : apart b := by
   cases b with
   | nil => trivial
   | cons v b => exact pb.2
  have et := ext_apart a b hx.2 hy.2 pa' pb' (fun u hu => by
   have h1 := h (u + x.f1) (by omega)
   rw [atS_cons, atS_cons, if_neg (by omega), if_neg (by omega), e1] at h1
   rw [show u + y.f1 - y.f1 = u by omega] at h1
   exact h1)
  rw [et]
  congr 1
  cases x
  cases y
  simp only at e0 e1
  rw [e0, e1]
theorem sliceV_wf (l : List S61) (a b : Int) : RunsWf (sliceV l a b) ∧ (sliceV l a b).length ≤ 262144 ∧ (vld l = true → vld (sliceV l a b) = true) := by
 unfold sliceV
 by_cases v : vld l = true
 ·rw [if_pos v]
  have hv := vld_iff.1 v
  have h1 := slF_sm l a b 0 hv.2.1
  have h2 := slF_len l a b 0
  have h3 := sm_nonneg hv.2.1
  have h4 : RunsOk (slF a b 0 l) := slF_ok hv.2.1
  have h5 : sm (slF a b 0 l) ≤ sm l := by
   rw [h1]
   unfold mx mn
   repeat' split
   all_goals omega
  exact ⟨h4.wf (by omega), by omega, fun _ => vld_iff.2 ⟨by omega, h4, by omega⟩⟩
 ·rw [if_neg v]
  exact ⟨fun x hx => by simp at hx, by simp, fun h => absurd h v⟩
theorem Insert_ev {l : List S61} {a t : Int} (hw : RunsWf l) (hl : l.length ≤ 140737488351232) (ha : (Lit.int .i64 a).wf = true) (ht : (Lit.int .i64 t).wf = true) : Ev (fun k => glitch_Insert.f k l a t) (insV l a t) := by
 have ha' := wf64 ha
 have ht' := wf64 ht
 unfold insV
 refine Ev.bind (wave_Valid_ev hw hl) ?_
 by_cases v : vld l = true
 ·have hv := vld_iff.1 v
  have h0 := sm_nonneg hv.2.1
  rw [if_pos v]
  have el : longV l = sm l := if_pos v
  refine Ev.congr (fun k => if_pos v) (Ev.bind (wave_Long_ev hw hl) ?_)
  rw [el]
  have hbad : Ev (fun k => glitch_Insert.j0 k l a t (sm l) true) ([], 2) := Ev.step (f := fun _ => some ([], 2)) (fun k => by simp only [glitch_Insert.j0]; rfl) (Ev.now _)
  by_cases g : a < 0 ∨ sm l < a ∨ t < 1 ∨ sm l - a < t
  ·rw [if_pos g]
   by_cases g1 : a < 0
   ·exact Ev.congr (fun k => if_pos g1) hbad
   ·refine Ev.congr (fun k => if_neg g1) ?_
    by_cases g2 : a > sm l
    ·exact Ev.congr (fun k => if_pos g2) hbad
    ·refine Ev.congr (fun k => if_neg g2) ?_
     by_cases g3 : t < 1
     ·exact Ev.congr (fun k => if_pos g3) hbad
     ·refine Ev.congr (fun k => if_neg g3) ?_
      rw [w64 (x := sm l - a) (by omega) (by omega), decide_eq_true (by omega)]
      exact hbad
  ·rw [if_neg g]
   refine Ev.congr (fun k => (if_neg (by omega)).trans ((if_neg (by omega)).trans (if_neg (by omega)))) ?_
   rw [w64 (x := sm l - a) (by omega) (by omega), decide_eq_false (by omega)]
   have ew : wrap64 (a + t) = a + t := w64 (by omega) (by omega)
   have hp := parts_sm hv.2.1 g
   have o1 := sliceV_wf l 0 a
   have o2 := sliceV_wf l a (a + t)
   have o3 := sliceV_wf l (a + t) (sm l)
   have v2 := o2.2.2 v
   have f1 : sliceV l 0 a = slF 0 a 0 l := if_pos v
   have f2 : sliceV l a (a + t) = slF a (a + t) 0 l := if_pos v
   have f3 : sliceV l (a + t) (sm l) = slF (a + t) (sm l) 0 l := if_pos v
   have s1 : RunsOk (slF 0 a 0 l) := slF_ok hv.2.1
   have s2 : RunsOk (slF a (a + t) 0 l) := slF_ok hv.2.1
   have s3 : RunsOk (slF (a + t) (sm l) 0 l) := slF_ok hv.2.1
   have n1 := slF_len l 0 a 0
   have n2 := slF_len l a (a + t) 0
   have n3 := slF_len l (a + t) (sm l) 0
   have c1 := wave_Slice_ev (a := 0) (b := a) hw hl (by omega)
   have c2 := wave_Slice_ev (a := a) (b := a + t) hw hl (by omega)
   have c3 := wave_Slice_ev (a := a + t) (b := sm l) hw hl (by omega)
   have c4 := wave_Invert_ev o2.1 (by omega)
   have f4 : invV (sliceV l a (a + t)) = (slF a (a + t) 0 l).map invR := by
    unfold invV
    rw [if_pos v2, f2]
   rw [f4] at c4
   rw [f1] at c1
   rw [f2] at c2 c4
   rw [f3] at c3
   have hnil : Tk ([] : List S61) := fun y hy => by simp at hy
   have i2 := inv_sm (slF a (a + t) 0 l)
   have p1 := Insert_put_ev (part := slF 0 a 0 l) (o := []) hnil s1.tk (by simp only [sm]; omega) (by omega) (by simp only [List.length_nil]; omega)
   have m1 := cln_sm (slF 0 a 0 l) []
   have l1 := cln_len (slF 0 a 0 l) []
   simp only [sm, List.length_nil] at m1 l1
   have p2 := Insert_put_ev (part := (slF a (a + t) 0 l).map invR) (o := cln [] (slF 0 a 0 l)) (cln_tk _ hnil s1.tk) (invL_ok s2).tk (by omega) (by rw [List.length_map]; omega) (by rw [List.length_map]; omega)
   have m2 := cln_sm ((slF a (a + t) 0 l).map invR) (cln [] (slF 0 a 0 l))
   have l2 := cln_len ((slF a (a + t) 0 l).map invR) (cln [] (slF 0 a 0 l))
   rw [List.length_map] at l2
   have p3 := Insert_put_ev (part := slF (a + t) (sm l) 0 l) (o := cln (cln [] (slF 0 a 0 l)) ((slF a (a + t) 0 l).map invR)) (cln_tk _ (cln_tk _ hnil s1.tk) (invL_ok s2).tk) s3.tk (by omega) (by omega) (by omega)
   have er : cln (cln (cln [] (slF 0 a 0 l)) ((slF a (a + t) 0 l).map invR)) (slF (a + t) (sm l) 0 l) = jn (insL l a t) := by
    rw [← cln_jn]
    unfold insL
    rw [cln_app, cln_app]
   rw [er] at p3
   clear m1 m2 l1 l2 er i2 hnil n1 n2 n3 s1 s2 s3 o1 o2 o3 hp f1 f2 f3 f4 v2 hbad el h0 hv ha' ht' ha ht hl hw g
   refine Ev.step (f := fun k => (wave_Slice.f k l 0 a).bind fun t177 => ((glitch_Insert_put.f k t177 []).bind fun t180 => ((wave_Slice.f k l a (a + t)).bind fun t183 => ((wave_Invert.f k t183).bind fun t186 => ((glitch_Insert_put.f k t186 t180).bind fun t189 => ((wave_Slice.f k l (a + t) (sm l)).bind fun t192 => ((glitch_Insert_put.f k t192 t189).bind fun t195 => (if (t195.length : Int) > 262144 then (some ([], 6)) else (some (t195, 0)))))))))) (fun k => ?_) (Ev.bind c1 (Ev.bind p1 (Ev.bind c2 (Ev.bind c4 (Ev.bind p2 (Ev.bind c3 (Ev.bind p3 ?_)))))))
   ·simp only [glitch_Insert.j0]
    rw [ew, if_neg (by decide)]
   ·by_cases c6 : 262144 < (jn (insL l a t)).length
    ·rw [if_pos c6]
     exact Ev.congr (fun k => if_pos (by omega)) (Ev.now _)
    ·rw [if_neg c6]
     exact Ev.congr (fun k => if_neg (by omega)) (Ev.now _)
 ·rw [if_neg v]
  exact Ev.congr (fun k => if_neg v) (Ev.now _)
theorem insV_len (l : List S61) (a t : Int) : (insV l a t).1.length ≤ 262144 := by
 unfold insV
 by_cases v : vld l = true
 ·rw [if_pos v]
  by_cases g : a < 0 ∨ sm l < a ∨ t < 1 ∨ sm l - a < t
  ·rw [if_pos g]
   simp
  ·rw [if_neg g]
   by_cases c : 262144 < (jn (insL l a t)).length
   ·rw [if_pos c]
    simp
   ·rw [if_neg c]
    show (jn (insL l a t)).length ≤ 262144
    omega
 ·rw [if_neg v]
  simp
/-- Inserted twice, a pulse is gone. -/
theorem insV_twice {l : List S61} {a t : Int} (h : (insV l a t).2 = 0) : vld (insV l a t).1 = true ∧ insV (insV l a t).1 a t = (cleanV l, 0) := by
 by_cases v : vld l = true
 ·have hv := vld_iff.1 v
  by_cases g : a < 0 ∨ sm l < a ∨ t < 1 ∨ sm l - a < t
  ·have e : insV l a t = ([], 2) := by
    unfold insV
    rw [if_pos v, if_pos g]
   rw [e] at h
   cases h
  ·by_cases c : 262144 < (jn (insL l a t)).length
   ·have e : insV l a t = ([], 6) := by
     unfold insV
     rw [if_pos v, if_neg g, if_pos c]
    rw [e] at h
    cases h
   ·have e : insV l a t = (jn (insL l a t), 0) := by
     unfold insV
     rw [if_pos v, if_neg g, if_neg c]
    rw [e]
    have k1 := insL_ok a t hv.2.1
    have k2 := insL_sm hv.2.1 g
    have m1 : RunsOk (jn (insL l a t)) := jn_ok k1
    have m2 : sm (jn (insL l a t)) = sm l := by rw [jn_sm, k2]
    have vm : vld (jn (insL l a t)) = true := vld_iff.2 ⟨by omega, m1, by rw [m2]; exact hv.2.2⟩
    refine ⟨vm, ?_⟩
    have g2 : ¬ (a < 0 ∨ sm (jn (insL l a t)) < a ∨ t < 1 ∨ sm (jn (insL l a t)) - a < t) := by
     rw [m2]
     exact g
    have ej : jn (insL (jn (insL l a t)) a t) = jn l := by
     refine ext_apart _ _ (jn_ok (insL_ok a t m1)) (jn_ok hv.2.1) (jn_apart _) (jn_apart _) (fun u hu => ?_)
     rw [jn_at (insL_ok a t m1), jn_at hv.2.1, insL_at m1 g2 hu, jn_at k1, insL_at hv.2.1 g hu]
     by_cases cu : a ≤ u ∧ u < a + t
     ·rw [if_pos cu, if_pos cu]
      have hin : (atS l u).2 = true := atS_in hv.2.1.m1 hu (by omega)
      unfold flipA
      rw [if_pos hin, if_pos rfl]
      have e9 : (1 - (1 - (atS l u).1), true) = atS l u := by
       have : 1 - (1 - (atS l u).1) = (atS l u).1 := by omega
       rw [this, ← hin]
      exact e9
     ·rw [if_neg cu, if_neg cu]
    have hjl := jn_len l
    unfold insV
    rw [if_pos vm, if_neg g2, ej, if_neg (by omega), show cleanV l = jn l from if_pos v]
 ·have e : insV l a t = ([], 1) := by
   unfold insV
   rw [if_neg v]
  rw [e] at h
  cases h
theorem smallR_wf {m : Int} {l : List S61} (hm : m ≤ 65535) (h : RunsM m l) (hs : sm l ≤ 1099511627776) : RunsWf l := by
 intro y hy
 have h7 := h y hy
 have h8 := leT_sm h.tk y hy
 unfold RunWf
 simp [Lit.wf, IntKind.min, IntKind.max, IntKind.bits, IntKind.signed]
 omega
theorem head_pos {T : Int} {ws : List (List S61)} (h : Rem T ws) (hne : ws ≠ []) (hh : ¬ ws.headD [] = []) : 0 < T := by
 cases ws with
 | nil => exact absurd rfl hne
 | cons w ws =>
  have h1 := h w (by simp)
  cases w with
  | nil => exact absurd rfl hh
  | cons x l =>
   have h2 := h1.1.cons
   have h3 := smT_nonneg h2.2
   have h4 := h1.2
   simp only [sm] at h4
   omega
theorem mrg_sm : ∀ (n : Nat) (o : List S61) (ws : List (List S61)) (T : Int), Rem T ws → ws ≠ [] → T ≤ n → 0 ≤ T → sm (mrg n o ws) = sm o + T
 | 0, o, ws, T, h, hne, hn, h0 => by
  show sm o = _
  omega
 | n + 1, o, ws, T, h, hne, hn, h0 => by
  unfold mrg
  by_cases c : ws.headD [] = []
  ·rw [if_pos c]
   cases ws with
   | nil => exact absurd rfl hne
   | cons w ws =>
    have h1 := (h w (by simp)).2
    have e : w = [] := c
    rw [e] at h1
    simp only [sm] at h1
    omega
  ·have hT := head_pos h hne c
   have h1 := stp_ok h hT
   have hle : stp 1099511627776 ws ≤ T := by
    cases ws with
    | nil => exact absurd rfl hne
    | cons w ws =>
     have h1 := (stp_le (w :: ws) 1099511627776).2 w (by simp)
     have h2 := hd_ok (h w (by simp)) hT
     omega
   rw [if_neg c, mrg_sm n _ _ (T - stp 1099511627776 ws) (h.cut hT) (by simpa using hne) (by omega) (by omega), putR_sm]
   omega
def Lv (ws : List (List S61)) : Prop := ∀ w ∈ ws, RunsOk w
def val : List (List S61) → Nat
 | [] => 0
 | w :: ws => (if (hd w).f0 = 1 then 1 else 0) + 2 * val ws
theorem val_lt : ∀ (ws : List (List S61)), val ws < 2 ^ ws.length
 | [] => by simp [val]
 | w :: ws => by
  have := val_lt ws
  simp only [val, List.length_cons, Nat.pow_succ]
  split <;> omega
theorem or_shl {v j : Nat} {b : Int} (hv : v < 2 ^ j) (hj : j < 16) (hb : b = 0 ∨ b = 1) : Go.bits .or .i64 (v : Int) (shl .i64 b (j : Int)) = ((v + 2 ^ j * (if b = 1 then 1 else 0) : Nat) : Int) := by
 have hp : (2 : Nat) ^ j ≤ 2 ^ 15 := Nat.pow_le_pow_right (by omega) (by omega)
 have h1 : ∀ k : Fin 16, shl .i64 1 ((k.val : Nat) : Int) = ((2 ^ k.val : Nat) : Int) := by decide +kernel
 have h0 : ∀ k : Fin 16, shl .i64 0 ((k.val : Nat) : Int) = ((0 : Nat) : Int) := by decide +kernel
 have e1 : ∀ a b : Int, Go.bits .or .i64 a b = IntKind.i64.wrap (((BitVec.ofInt 64 a ||| BitVec.ofInt 64 b).toNat : Nat) : Int) := fun a b => rfl
 rcases hb with rfl | rfl
 ·have := h0 ⟨j, hj⟩
  simp only at this
  rw [this, e1, BitVec.toNat_or, ofIntN (by omega), ofIntN (by omega), wrapN (by simpa using (by omega))]
  simp
 ·have := h1 ⟨j, hj⟩
  simp only at this
  have h2 := Nat.two_pow_add_eq_or_of_lt hv 1
  rw [Nat.mul_one] at h2
  rw [this, e1, BitVec.toNat_or, ofIntN (by omega), ofIntN (by omega), Nat.or_comm, ← h2, wrapN (by omega), if_pos rfl]
  norm_cast
  omega
theorem hd_lv {w : List S61} (h : RunsOk w) : (hd w).f0 = 0 ∨ (hd w).f0 = 1 := by
 cases w with
 | nil => exact .inl rfl
 | cons x l => exact h.cons.1.1
theorem lvl_val : ∀ (ws : List (List S61)) (v j : Nat), v < 2 ^ j → j + ws.length ≤ 16 → Lv ws → lvl (v : Int) j ws = ((v + 2 ^ j * val ws : Nat) : Int)
 | [], v, j, hv, hj, h => by simp [lvl, val]
 | w :: ws, v, j, hv, hj, h => by
  have hw := hd_lv (h w (by simp))
  simp only [List.length_cons] at hj
  have hb : v + 2 ^ j * (if (hd w).f0 = 1 then 1 else 0) < 2 ^ (j + 1) := by
   rw [Nat.pow_succ]
   split <;> omega
  unfold lvl
  rw [or_shl hv (by omega) hw, lvl_val ws _ (j + 1) hb (by omega) (fun y hy => h y (by simp [hy]))]
  norm_cast
  rw [val, Nat.pow_succ, Nat.mul_add, Nat.add_assoc, ← Nat.mul_assoc]
theorem val_bit : ∀ (A : List (List S61)) (w : List S61) (B : List (List S61)), (val (A ++ w :: B)).testBit A.length = decide ((hd w).f0 = 1)
 | [], w, B => by
  show ((if (hd w).f0 = 1 then 1 else 0) + 2 * val B).testBit 0 = _
  rw [Nat.testBit_zero]
  by_cases c : (hd w).f0 = 1
  ·rw [if_pos c, decide_eq_true c]
   exact decide_eq_true (by omega)
  ·rw [if_neg c, decide_eq_false c]
   exact decide_eq_false (by omega)
 | v :: A, w, B => by
  show ((if (hd v).f0 = 1 then 1 else 0) + 2 * val (A ++ w :: B)).testBit (A.length + 1) = _
  rw [Nat.testBit_succ, show ((if (hd v).f0 = 1 then 1 else 0) + 2 * val (A ++ w :: B)) / 2 = val (A ++ w :: B) by split <;> omega]
  exact val_bit A w B
theorem lvl_bit {A B : List (List S61)} {w : List S61} (h : Lv (A ++ w :: B)) (hl : (A ++ w :: B).length ≤ 16) : bit (lvl 0 0 (A ++ w :: B)) (A.length : Int) = (hd w).f0 := by
 have e := lvl_val (A ++ w :: B) 0 0 (by omega) (by omega) h
 rw [Nat.pow_zero, Nat.one_mul, Nat.zero_add] at e
 have hv := val_lt (A ++ w :: B)
 have hp : (2 : Nat) ^ (A ++ w :: B).length ≤ 2 ^ 16 := Nat.pow_le_pow_right (by omega) hl
 have hA : A.length < 64 := by
  simp only [List.length_append, List.length_cons] at hl
  omega
 have e0 : lvl 0 0 (A ++ w :: B) = ((val (A ++ w :: B) : Nat) : Int) := e
 rw [e0, bitN (by omega) hA, val_bit]
 have hw := hd_lv (h w (by simp))
 rcases hw with k | k
 ·rw [k]
  rfl
 ·rw [k]
  rfl
theorem putR_putR (X : List S61) (b t u : Int) : putR (putR X b t) b u = putR X b (t + u) := by
 rcases snoc_cases X with rfl | ⟨q, y, rfl⟩
 ·rw [putR_nil, putR_nil]
  exact putR_same [] ⟨b, t⟩ u
 ·by_cases c : y.f0 = b
  ·rw [← c, putR_same, putR_same, putR_same]
   show q ++ [(⟨y.f0, y.f1 + t + u⟩ : S61)] = q ++ [(⟨y.f0, y.f1 + (t + u)⟩ : S61)]
   rw [Int.add_assoc]
  ·rw [putR_new q y c, putR_new q y c]
   exact putR_same (q ++ [y]) ⟨b, t⟩ u
theorem chC_app (i : Int) : ∀ (a b o : List S61), chC i o (a ++ b) = chC i (chC i o a) b
 | [], b, o => rfl
 | x :: a, b, o => chC_app i a b (putR o (bit x.f0 i) x.f1)
theorem chC_put (i : Int) (o : List S61) (v s : Int) : chC i [] (putR o v s) = putR (chC i [] o) (bit v i) s := by
 rcases snoc_cases o with rfl | ⟨q, y, rfl⟩
 ·rw [putR_nil]
  rfl
 ·by_cases c : y.f0 = v
  ·rw [← c, putR_same, chC_app, chC_app]
   show putR (chC i [] q) (bit y.f0 i) (y.f1 + s) = putR (putR (chC i [] q) (bit y.f0 i) y.f1) (bit y.f0 i) s
   rw [putR_putR]
  ·rw [putR_new q y c, chC_app]
   rfl
theorem cln_cut (A : List S61) (x : S61) (l : List S61) {s : Int} : cln (putR A x.f0 s) (cutR s (x :: l)) = cln A (x :: l) := by
 rw [cutR_cons]
 by_cases c : x.f1 = s
 ·rw [if_pos c, ← c]
  rfl
 ·rw [if_neg c]
  show cln (putR (putR A x.f0 s) x.f0 (x.f1 - s)) l = cln (putR A x.f0 x.f1) l
  rw [putR_putR, show s + (x.f1 - s) = x.f1 by omega]
theorem cut_ok1 (s : Int) {w : List S61} (h : RunsOk w) (hs : ∀ x l, w = x :: l → s ≤ x.f1) : RunsOk (cutR s w) := by
 cases w with
 | nil => exact h
 | cons x l =>
  have hx := h.cons
  have h1 := hs x l rfl
  rw [cutR_cons]
  by_cases c : x.f1 = s
  ·rw [if_pos c]
   exact hx.2
  ·rw [if_neg c]
   intro y hy
   rcases List.mem_cons.1 hy with rfl | hy
   ·exact ⟨hx.1.1, by show 1 ≤ x.f1 - s; omega⟩
   ·exact hx.2 y hy
theorem Lv.cut {ws : List (List S61)} (h : Lv ws) : Lv (ws.map (cutR (stp 1099511627776 ws))) := by
 intro w hw
 obtain ⟨v, hv, rfl⟩ := List.mem_map.1 hw
 refine cut_ok1 _ (h v hv) (fun x l e => ?_)
 have := (stp_le ws 1099511627776).2 v hv
 rw [e] at this
 exact this
theorem mrg_chan : ∀ (n : Nat) (o : List S61) (A : List (List S61)) (w : List S61) (B : List (List S61)) (T : Int), Rem T (A ++ w :: B) → T ≤ n → 0 ≤ T → Lv (A ++ w :: B) → (A ++ w :: B).length ≤ 16 →
  chC (A.length : Int) [] (mrg n o (A ++ w :: B)) = cln (chC (A.length : Int) [] o) w
 | 0, o, A, w, B, T, h, hn, h0, hv, hl => by
  have e : w = [] := empty_of (h w (by simp)).1 (by have := (h w (by simp)).2; omega)
  rw [e]
  rfl
 | n + 1, o, A, w, B, T, h, hn, h0, hv, hl => by
  have hne : A ++ w :: B ≠ [] := by simp
  unfold mrg
  by_cases c : (A ++ w :: B).headD [] = []
  ·have hT : T = 0 := by
    have : (A ++ w :: B).headD [] ∈ A ++ w :: B := by
     cases A with
     | nil => simp
     | cons a A => simp
    have h1 := (h _ this).2
    rw [c] at h1
    simp only [sm] at h1
    omega
   have e : w = [] := empty_of (h w (by simp)).1 (by have := (h w (by simp)).2; omega)
   rw [if_pos c, e]
   rfl
  ·have hT := head_pos h hne c
   have hw := h w (by simp)
   have h1 := stp_ok h hT
   have h2 := (stp_le (A ++ w :: B) 1099511627776).2 w (by simp)
   have h3 := hd_ok hw hT
   have hb := lvl_bit hv hl
   have e5 : (A ++ w :: B).map (cutR (stp 1099511627776 (A ++ w :: B))) = A.map (cutR (stp 1099511627776 (A ++ w :: B))) ++ cutR (stp 1099511627776 (A ++ w :: B)) w :: B.map (cutR (stp 1099511627776 (A ++ w :: B))) := by simp
   have h4 := h.cut hT
   have hv2 := hv.cut
   rw [e5] at h4 hv2
   have ih := mrg_chan n (putR o (lvl 0 0 (A ++ w :: B)) (stp 1099511627776 (A ++ w :: B))) (A.map (cutR (stp 1099511627776 (A ++ w :: B)))) (cutR (stp 1099511627776 (A ++ w :: B)) w) (B.map (cutR (stp 1099511627776 (A ++ w :: B)))) (T - stp 1099511627776 (A ++ w :: B)) h4 (by omega) (by omega) hv2 (by simpa using hl)
   rw [List.length_map] at ih
   rw [if_neg c, e5, ih, chC_put, hb]
   obtain ⟨x, l, e⟩ := nonempty_of (w := w) (by omega)
   rw [e]
   exact cln_cut _ x l
theorem mrg_m {m : Int} : ∀ (n : Nat) (o : List S61) (ws : List (List S61)) (T : Int), Rem T ws → ws ≠ [] → Lv ws → ws.length ≤ 16 → ((2 ^ ws.length : Nat) : Int) - 1 ≤ m → RunsM m o → RunsM m (mrg n o ws)
 | 0, o, ws, T, h, hne, hv, hl, hm, ho => ho
 | n + 1, o, ws, T, h, hne, hv, hl, hm, ho => by
  unfold mrg
  by_cases c : ws.headD [] = []
  ·rw [if_pos c]
   exact ho
  ·have hT := head_pos h hne c
   have h1 := stp_ok h hT
   have e := lvl_val ws 0 0 (by omega) (by omega) hv
   rw [Nat.pow_zero, Nat.one_mul, Nat.zero_add] at e
   have e0 : lvl 0 0 ws = ((val ws : Nat) : Int) := e
   have hlt := val_lt ws
   rw [if_neg c]
   exact mrg_m n _ _ (T - stp 1099511627776 ws) (h.cut hT) (by simpa using hne) hv.cut (by simpa using hl) (by simpa using hm) (putR_ok ho (by rw [e0]; omega) h1)
theorem mk_eq {l : List ByteArray} (h : l.length ≤ 16) : mk l = ((2 ^ l.length : Nat) : Int) - 1 := by
 obtain ⟨n, hn⟩ : ∃ n, n = l.length := ⟨_, rfl⟩
 unfold mk
 rw [← hn] at h ⊢
 clear hn
 have : ∀ n : Fin 17, wrap64 ((shl .i64 1 ((n.val : Nat) : Int)) - 1) = ((2 ^ n.val : Nat) : Int) - 1 := by decide +kernel
 exact this ⟨n, by omega⟩
theorem chs_split (c : List S61) : ∀ (n i k : Nat), k < n → ∃ A B, chs i n c = A ++ chR ((i + k : Nat) : Int) c :: B ∧ A.length = k
 | 0, i, k, h => by omega
 | n + 1, i, 0, h => ⟨[], chs (i + 1) n c, rfl, rfl⟩
 | n + 1, i, k + 1, h => by
  obtain ⟨A, B, e, hA⟩ := chs_split c n (i + 1) k (by omega)
  refine ⟨chR (i : Int) c :: A, B, ?_, by simp [hA]⟩
  rw [chs, e, show i + 1 + k = i + (k + 1) by omega]
  rfl
theorem awake50_ev : Ev (fun k => lw_awake.f k) true := Ev.of (k := 200) (fun k => lw_awake.mono k) (by decide +kernel)
theorem awake50_then : Ev (fun k => (lw_awake.f k).bind fun t => some t) true := Ev.bind awake50_ev (Ev.now true)
/-- What the channels of a valid capture are. -/
theorem chan_okL {l : List ByteArray} {r : List S61} (hc : chkV l r = 0) {k : Nat} (hk : k < l.length) : RunsWf (chR (k : Int) r) ∧ (chR (k : Int) r).length ≤ 262144 ∧ vld (chR (k : Int) r) = true ∧ sm (chR (k : Int) r) = sm r := by
 have h := chk_0 hc
 have hn := nms_0 h.2.1
 have hm := mk_le hn.1
 have h3 := chR_len (k : Int) r
 have h4 := chR_ok (m := mk l) (i := (k : Int)) (by omega) (by omega) h.2.2.1
 have h6 : sm (chR (k : Int) r) = sm r := chR_sm _ r
 exact ⟨smallR_wf (m := 1) (by omega) h4 (by omega), by omega, vld_of1 h4 (by omega) (by omega), h6⟩
theorem chan_evL {l : List ByteArray} {r : List S61} (hc : chkV l r = 0) {pre post : List ByteArray} {x : ByteArray} (e : l = pre ++ x :: post) (hd : dupS pre (x :: post) = false) :
  chV l r x = (chR (pre.length : Int) r, 0) := by
 have hx := ixS_own hd
 unfold chV
 have e3 : ixS x 0 l = (pre.length : Int) := by
  rw [e]
  exact hx.1
 rw [if_pos hc, e3, if_neg (by omega), chC_eq]
theorem chs_succ (n : Nat) (r : List S61) : chs 0 (n + 1) r = chs 0 n r ++ [chR (n : Int) r] := by
 rw [← chs_snoc n 0 r, Nat.zero_add]
theorem waves_l0 {l : List ByteArray} {r : List S61} (hs : StrsOk l) (hc : chkV l r = 0) : ∀ (post pre : List ByteArray), l = pre ++ post → dupS pre post = false →
  Ev (fun k => inject_waves.l0 k (chs 0 pre.length r) l (l.length : Int) (pre.length : Int) l r) (chs 0 l.length r)
 | [], pre, e, hd => by
  have e1 : pre = l := by rw [e]; simp
  subst e1
  refine Ev.step (f := fun _ => some (chs 0 pre.length r)) (fun k => ?_) (Ev.now _)
  simp only [inject_waves.l0]
  rw [if_neg (by omega)]
 | x :: post, pre, e, hd => by
  have h := chk_0 hc
  have hn := nms_0 h.2.1
  have hpl : pre.length < l.length := by
   rw [e]
   simp only [List.length_append, List.length_cons]
   omega
  have hlt : (pre.length : Int) < (l.length : Int) := by omega
  have hr : rdOf ByteArray.empty l (pre.length : Int) = x := by
   rw [e]
   exact rds_mid pre post x
  have hCh := Channel_ev (s := x) hs (by omega) (show r.length ≤ 140737488351232 by omega)
  rw [chan_evL hc e hd] at hCh
  have ih := waves_l0 hs hc post (pre ++ [x]) (by simpa using e) (ixS_own hd).2
  rw [show (pre ++ [x]).length = pre.length + 1 by simp, chs_succ] at ih
  have q : (chs 0 pre.length r).length < 5864062014805 := by
   rw [chs_len]
   omega
  have ex : wrap64 ((pre.length : Int) + 1) = ((pre.length + 1 : Nat) : Int) := by
   rw [w64 (by omega) (by omega)]
   omega
  clear h hn hs
  refine Ev.step (f := fun k => (capture_Channel.f k l r x).bind fun bt317 => (if (chs 0 pre.length r).length < 5864062014805 then (inject_waves.l0 k (chs 0 pre.length r ++ [bt317.1]) l (l.length : Int) ((pre.length + 1 : Nat) : Int) l r) else (none))) (fun k => ?_) (Ev.bind hCh (Ev.congr (fun k => if_pos q) ih))
  simp only [inject_waves.l0]
  rw [if_pos hlt, if_pos (Int.natCast_nonneg _), if_pos hlt, hr, ex]
theorem waves_ev {l : List ByteArray} {r : List S61} (hs : StrsOk l) (hc : chkV l r = 0) : Ev (fun k => inject_waves.f k l r) (chs 0 l.length r) :=
 waves_l0 hs hc l [] rfl (nms_dup (chk_0 hc).2.1)
theorem injplace_l0 (s : ByteArray) : ∀ (post pre : List ByteArray), (pre ++ post).length ≤ 140737488351232 →
  Ev (fun k => inject_place.l0 k s (pre ++ post) ((pre ++ post).length : Int) (pre.length : Int)) (ixS s pre.length post)
 | [], pre, hl => by
  refine Ev.step (f := fun _ => some (-1)) (fun k => ?_) (Ev.now _)
  simp only [inject_place.l0]
  rw [if_neg (by simp)]
 | x :: post, pre, hl => by
  have hlt := mids_lt pre post x
  have hn : pre.length ≤ 9223372036854775806 := by
   simp only [List.length_append] at hl
   omega
  have ih := injplace_l0 s post (pre ++ [x]) (by simpa using hl)
  rw [← mid_snoc] at ih
  unfold ixS
  by_cases c : s.toList = x.toList
  ·rw [if_pos c]
   refine Ev.step (f := fun _ => some (pre.length : Int)) (fun k => ?_) (Ev.now _)
   simp only [inject_place.l0]
   rw [if_pos hlt, if_pos (Int.natCast_nonneg _), if_pos hlt, rds_mid, if_pos c.symm]
  ·rw [if_neg c]
   rw [show (pre ++ [x]).length = pre.length + 1 by simp] at ih
   refine Ev.step (fun k => ?_) ih
   simp only [inject_place.l0]
   rw [if_pos hlt, if_pos (Int.natCast_nonneg _), if_pos hlt, rds_mid, if_neg (fun h => c h.symm), succ_mid pre x hn, show (pre ++ [x]).length = pre.length + 1 by simp]
theorem injplace_ev (l : List ByteArray) (r : List S61) (s : ByteArray) (hl : l.length ≤ 140737488351232) : Ev (fun k => inject_place.f k l r s) (ixS s 0 l) := injplace_l0 s l [] (by simpa using hl)
/-- One glitch. -/
def glV (l : List ByteArray) (r : List S61) (x : S49) : List ByteArray × List S61 × Int :=
 if ixS x.f0 0 l < 0 then ([], [], 8) else
 if (insV (chR (ixS x.f0 0 l) r) x.f1 x.f2).2 = 0 then bldV l ((chs 0 l.length r).set (ixS x.f0 0 l).toNat (insV (chR (ixS x.f0 0 l) r) x.f1 x.f2).1) else ([], [], (insV (chR (ixS x.f0 0 l) r) x.f1 x.f2).2)
def glsV : List S49 → List ByteArray → List S61 → List ByteArray × List S61 × Int
 | [], l, r => (l, r, 0)
 | x :: t, l, r => if (glV l r x).2.2 = 0 then glsV t (glV l r x).1 (glV l r x).2.1 else ([], [], (glV l r x).2.2)
def GlWf (x : S49) : Prop := (Lit.int .i64 x.f1).wf = true ∧ (Lit.int .i64 x.f2).wf = true
theorem ixS_lt {s : ByteArray} {l : List ByteArray} (h : ¬ ixS s 0 l < 0) : ∃ i : Nat, ixS s 0 l = (i : Int) ∧ i < l.length := by
 rcases ixS_ge s l 0 with h1 | h1
 ·omega
 ·exact ⟨(ixS s 0 l).toNat, by omega, by omega⟩
theorem chs_get (r : List S61) {n k : Nat} (h : k < n) : (chs 0 n r)[k]? = some (chR (k : Int) r) := by
 obtain ⟨A, B, e, hA⟩ := chs_split r n 0 k h
 rw [e, List.getElem?_append_right (by omega), hA, Nat.sub_self, Nat.zero_add]
 rfl
/-- The waves of a capture, one of them replaced by a wave that is as long. -/
theorem ws_ok {l : List ByteArray} {r w : List S61} (hc : chkV l r = 0) {i : Nat} (hi : i < l.length) (hv : vld w = true) (hw : sm w = sm r) (hwl : w.length ≤ 262144) :
  (∀ v ∈ (chs 0 l.length r).set i w, vld v = true ∧ sm v = sm r) ∧ ((chs 0 l.length r).set i w).length = l.length ∧ WWf ((chs 0 l.length r).set i w) := by
 have hmem : ∀ v ∈ (chs 0 l.length r).set i w, vld v = true ∧ sm v = sm r ∧ RunsWf v ∧ v.length ≤ 262144 := by
  intro v h
  rcases List.mem_or_eq_of_mem_set h with h1 | rfl
  ·obtain ⟨k, h1, h2, rfl⟩ := (mem_chs _ _ _ _).1 h1
   have hk := chan_okL hc (k := k) (by omega)
   exact ⟨hk.2.2.1, hk.2.2.2, hk.1, hk.2.1⟩
  ·exact ⟨hv, hw, vld_wf hv, hwl⟩
 exact ⟨fun v h => ⟨(hmem v h).1, (hmem v h).2.1⟩, by rw [List.length_set, chs_len], fun v h => ⟨(hmem v h).2.2.1, by have := (hmem v h).2.2.2; omega⟩⟩
theorem insV_ok {w : List S61} {a t : Int} (v : vld w = true) (h : (insV w a t).2 = 0) : vld (insV w a t).1 = true ∧ sm (insV w a t).1 = sm w ∧ (insV w a t).1.length ≤ 262144 ∧ apart (insV w a t).1 ∧ ¬ (a < 0 ∨ sm w < a ∨ t < 1 ∨ sm w - a < t) ∧ (insV w a t).1 = jn (insL w a t) := by
 have hl := insV_len w a t
 have h2 := insV_twice h
 unfold insV at h ⊢
 rw [if_pos v] at h ⊢
 by_cases g : a < 0 ∨ sm w < a ∨ t < 1 ∨ sm w - a < t
 ·rw [if_pos g] at h
  cases h
 ·rw [if_neg g] at h ⊢
  by_cases g1 : 262144 < (jn (insL w a t)).length
  ·rw [if_pos g1] at h
   cases h
  ·rw [if_neg g1] at h ⊢
   have e : insV w a t = (jn (insL w a t), 0) := by
    unfold insV
    rw [if_pos v, if_neg g, if_neg g1]
   rw [e] at h2 hl
   refine ⟨h2.1, ?_, hl, ?_, g, rfl⟩
   ·show sm (jn (insL w a t)) = sm w
    rw [← cln_jn, cln_sm, insL_sm (vld_iff.1 v).2.1 g]
    simp [sm]
   ·exact jn_apart _
/-- What is built of the waves of a valid capture, one replaced: an error, or a valid capture. -/
theorem bld_ok {l : List ByteArray} {r w : List S61} (hc : chkV l r = 0) {i : Nat} (hi : i < l.length) (hv : vld w = true) (hw : sm w = sm r) (hwl : w.length ≤ 262144) :
  bldV l ((chs 0 l.length r).set i w) = ([], [], 6) ∨ ∃ R, bldV l ((chs 0 l.length r).set i w) = (l, R, 0) ∧ chkV l R = 0 ∧ sm R = sm r ∧ R = mrg (sm r).toNat [] ((chs 0 l.length r).set i w) := by
 have h := chk_0 hc
 have hn := nms_0 h.2.1
 obtain ⟨h1, h2, h3⟩ := ws_ok hc hi hv hw hwl
 generalize hW : (chs 0 l.length r).set i w = W at h1 h2 h3 ⊢
 have hne : W ≠ [] := by
  intro e
  rw [e] at h2
  simp at h2
  omega
 have hs0 : sm (W.headD []) = sm r := by
  cases e : W with
  | nil => exact absurd e hne
  | cons v vs => exact (h1 v (by rw [e]; simp)).2
 have hcw : cwV W = 0 := by
  unfold cwV
  rw [hs0, if_pos (by unfold allV; exact List.all_eq_true.2 (fun v hv => (h1 v hv).1)), if_pos (by unfold allS; exact List.all_eq_true.2 (fun v hv => decide_eq_true (h1 v hv).2))]
 have hR : Rem (sm r) W := fun v hv => ⟨(vld_ok (h1 v hv).1).2.1, (h1 v hv).2⟩
 have hL : Lv W := fun v hv => (vld_iff.1 (h1 v hv).1).2.1
 have h0 := smM_nonneg h.2.2.1
 have g3 := mrg_sm (sm r).toNat [] W (sm r) hR hne (by omega) h0
 have g4 := mrg_m (m := mk l) (sm r).toNat [] W (sm r) hR hne hL (by omega) (by rw [h2, mk_eq hn.1]; exact Int.le_refl _) (fun x hx => by simp at hx)
 unfold bldV
 rw [if_pos h.2.1, if_pos h2, if_pos hcw, hs0]
 by_cases c : 262144 < (mrg (sm r).toNat [] W).length
 ·rw [if_pos c]
  exact .inl rfl
 ·rw [if_neg c]
  have g5 : sm (mrg (sm r).toNat [] W) = sm r := by
   rw [g3]
   simp only [sm]
   omega
  exact .inr ⟨_, rfl, chkV_of (by omega) h.2.1 g4 (by omega), g5, rfl⟩
theorem glV_ok {l : List ByteArray} {r : List S61} {x : S49} (hc : chkV l r = 0) (h : (glV l r x).2.2 = 0) : (glV l r x).1 = l ∧ chkV l (glV l r x).2.1 = 0 := by
 unfold glV at h ⊢
 by_cases c : ixS x.f0 0 l < 0
 ·rw [if_pos c] at h
  cases h
 ·rw [if_neg c] at h ⊢
  obtain ⟨i, e, hi⟩ := ixS_lt c
  rw [e] at h ⊢
  have hk := chan_okL hc hi
  by_cases c1 : (insV (chR (i : Int) r) x.f1 x.f2).2 = 0
  ·rw [if_pos c1] at h ⊢
   have ho := insV_ok hk.2.2.1 c1
   rw [Int.toNat_natCast] at h ⊢
   rcases bld_ok hc hi ho.1 (ho.2.1.trans hk.2.2.2) ho.2.2.1 with e1 | ⟨R, e1, h1, _⟩
   ·rw [e1] at h
    cases h
   ·rw [e1]
    exact ⟨rfl, h1⟩
  ·rw [if_neg c1] at h
   exact absurd h c1
theorem Glitches_l0 (l : List ByteArray) (hs : StrsOk l) : ∀ (post pre : List S49) (r : List S61), (∀ x ∈ post, GlWf x) → (pre ++ post).length ≤ 140737488351232 → chkV l r = 0 →
  Ev (fun k => inject_Glitches.l0 k (pre ++ post) ((pre ++ post).length : Int) (pre.length : Int) l r) (glsV post l r)
 | [], pre, r, hw, hl, hc => by
  refine Ev.step (f := fun _ => some (l, r, 0)) (fun k => ?_) (Ev.now _)
  simp only [inject_Glitches.l0]
  rw [if_neg (by simp)]
 | x :: post, pre, r, hw, hl, hc => by
  have h := chk_0 hc
  have hn := nms_0 h.2.1
  have hlt : (pre.length : Int) < ((pre ++ x :: post).length : Int) := by
   simp only [List.length_append, List.length_cons]
   omega
  have hnl : pre.length ≤ 9223372036854775806 := by
   simp only [List.length_append] at hl
   omega
  have hrd : rd_T49 (pre ++ x :: post) (pre.length : Int) = x := by
   simp [rd_T49, List.getD]
  have hst : ∀ k, inject_Glitches.l0 (k + 1) (pre ++ x :: post) ((pre ++ x :: post).length : Int) (pre.length : Int) l r = ((inject_place.f k l r x.f0).bind fun t393 => (if t393 < 0 then (some (([] : List ByteArray), ([] : List S61), 8)) else ((inject_waves.f k l r).bind fun t394 => (if 0 ≤ t393 then (if t393 < (t394.length : Int) then ((glitch_Insert.f k (rd_L4 t394 t393) x.f1 x.f2).bind fun bt398 => (if bt398.2 = 0 then ((capture_Build.f k l (t394.set (t393 : Int).toNat bt398.1)).bind fun bt403 => (if bt403.2.2 = 0 then (inject_Glitches.l0 k (pre ++ x :: post) ((pre ++ x :: post).length : Int) ((pre ++ [x]).length : Int) bt403.1 bt403.2.1) else (some (([] : List ByteArray), ([] : List S61), bt403.2.2)))) else (some (([] : List ByteArray), ([] : List S61), bt398.2)))) else (none)) else (none))))) := by
   intro k
   simp only [inject_Glitches.l0]
   rw [if_pos hlt, if_pos (Int.natCast_nonneg _), if_pos hlt, hrd, succ_mid pre x hnl]
  refine Ev.step hst (Ev.bind (injplace_ev l r x.f0 (by omega)) ?_)
  by_cases c : ixS x.f0 0 l < 0
  ·have e : glsV (x :: post) l r = ([], [], 8) := by
    unfold glsV glV
    rw [if_pos c, if_neg (show ¬ ((8 : Int) = 0) by decide)]
   rw [e]
   exact Ev.congr (fun k => if_pos c) (Ev.now _)
  ·obtain ⟨i, e, hi⟩ := ixS_lt c
   have hk := chan_okL hc hi
   have hIn := Insert_ev (a := x.f1) (t := x.f2) hk.1 (by omega) (hw x (by simp)).1 (hw x (by simp)).2
   have hget : rd_L4 (chs 0 l.length r) (i : Int) = chR (i : Int) r := by
    simp [rd_L4, List.getD, chs_get r hi]
   have eV : glV l r x = if (insV (chR (i : Int) r) x.f1 x.f2).2 = 0 then bldV l ((chs 0 l.length r).set i (insV (chR (i : Int) r) x.f1 x.f2).1) else ([], [], (insV (chR (i : Int) r) x.f1 x.f2).2) := by
    unfold glV
    rw [if_neg c, e, Int.toNat_natCast]
   have hlen : (i : Int) < ((chs 0 l.length r).length : Int) := by
    rw [chs_len]
    omega
   rw [e]
   refine Ev.congr (fun k => if_neg (by omega)) (Ev.bind (waves_ev hs hc) (Ev.congr (fun k => (if_pos (Int.natCast_nonneg _)).trans ((if_pos hlen).trans (by rw [hget]))) (Ev.bind hIn ?_)))
   by_cases c1 : (insV (chR (i : Int) r) x.f1 x.f2).2 = 0
   ·rw [if_pos c1] at eV
    have ho := insV_ok hk.2.2.1 c1
    obtain ⟨h1, h2, h3⟩ := ws_ok hc hi ho.1 (ho.2.1.trans hk.2.2.2) ho.2.2.1
    refine Ev.congr (fun k => if_pos c1) (Ev.bind (Build_ev hs (by rw [Int.toNat_natCast]; exact h3) (by omega) (by rw [Int.toNat_natCast]; omega)) ?_)
    rw [Int.toNat_natCast, ← eV]
    unfold glsV
    by_cases c2 : (glV l r x).2.2 = 0
    ·have hg := glV_ok hc c2
     rw [if_pos c2]
     refine Ev.congr (fun k => if_pos c2) ?_
     rw [hg.1]
     have ih := Glitches_l0 l hs post (pre ++ [x]) (glV l r x).2.1 (fun y hy => hw y (by simp [hy])) (by simpa using hl) hg.2
     rw [← mid_snoc] at ih
     exact ih
    ·rw [if_neg c2]
     exact Ev.congr (fun k => if_neg c2) (Ev.now _)
   ·rw [if_neg c1] at eV
    have e2 : glsV (x :: post) l r = ([], [], (insV (chR (i : Int) r) x.f1 x.f2).2) := by
     unfold glsV
     rw [eV, if_neg c1]
    rw [e2]
    exact Ev.congr (fun k => if_neg c1) (Ev.now _)
/-- All glitches of a list. -/
def glAll (l : List ByteArray) (r : List S61) (t : List S49) : List ByteArray × List S61 × Int := if chkV l r = 0 then glsV t l (clR r) else ([], [], chkV l r)
theorem chs_clR (r : List S61) : ∀ (n i : Nat), chs i n (clR r) = chs i n r
 | 0, i => rfl
 | n + 1, i => by rw [chs, chs, chR_clR, chs_clR r n]
theorem chk_clR {l : List ByteArray} {r : List S61} (hc : chkV l r = 0) : chkV l (clR r) = 0 := by
 have h := chk_0 hc
 have h1 := clR_len r
 exact chkV_of (by omega) h.2.1 (clR_ok h.2.2.1) (by rw [clR_sm]; exact h.2.2.2)
theorem Glitches_ev {l : List ByteArray} {r : List S61} {t : List S49} (hs : StrsOk l) (hl : l.length ≤ 140737488351232) (hr : r.length ≤ 140737488351232) (hw : ∀ x ∈ t, GlWf x) (ht : t.length ≤ 140737488351232) :
  Ev (fun k => inject_Glitches.f k l r t) (glAll l r t) := by
 unfold glAll
 refine Ev.bind (Check_ev hs hl hr) ?_
 by_cases c : chkV l r = 0
 ·rw [if_pos c]
  have hn := nms_0 (chk_0 c).2.1
  have hB : Ev (fun k => capture_Build.f k l (chs 0 l.length r)) (l, clR r, 0) := by
   have h := Build_ev (l := l) (ws := chs 0 l.length r) hs (fun w hw => by
    obtain ⟨k, h1, h2, rfl⟩ := (mem_chs _ _ _ _).1 hw
    have hk := chan_okL c (k := k) (by omega)
    exact ⟨hk.1, by omega⟩) hl (by rw [chs_len]; exact hl)
   rw [← chs_clR, bldV_chs c] at h
   rw [← chs_clR]
   exact h
  have h0 := Glitches_l0 l hs t [] (clR r) hw (by simpa using ht) (chk_clR c)
  exact Ev.congr (fun k => if_pos c) (Ev.bind (waves_ev hs c) (Ev.bind hB (Ev.congr (fun k => if_pos rfl) h0)))
 ·rw [if_neg c]
  exact Ev.congr (fun k => if_neg c) (Ev.now _)
theorem apR_chR (i : Int) : ∀ (l : List S61), apR (chR i l)
 | [] => trivial
 | y :: l => apR_pre1 _ _ (apR_chR i l)
theorem clR_chR (i : Int) (l : List S61) : clR (chR i l) = chR i l := clR_of_ap (apR_chR i l)
theorem pre1_at {x : S61} {L : List S61} (hL : Tk L) (hx : 0 ≤ x.f1) (t : Int) : atS (pre1 x L) t = atS (x :: L) t := by
 cases L with
 | nil => rfl
 | cons z zs =>
  have hz := hL.cons.1
  rw [pre1_cons]
  by_cases c : z.f0 = x.f0
  ·rw [if_pos c, atS_cons, atS_cons, atS_cons, c]
   simp only
   by_cases c1 : t < x.f1
   ·rw [if_pos c1, if_pos (by omega)]
   ·rw [if_neg c1]
    by_cases c2 : t - x.f1 < z.f1
    ·rw [if_pos c2, if_pos (by omega)]
    ·rw [if_neg c2, if_neg (by omega), show t - x.f1 - z.f1 = t - (x.f1 + z.f1) by omega]
  ·rw [if_neg c]
theorem chR_at (i : Int) : ∀ {l : List S61} (t : Int), Tk l → 0 ≤ t → atS (chR i l) t = if (atS l t).2 = true then (bit (atS l t).1 i, true) else (-1, false)
 | [], t, h, ht => rfl
 | y :: l, t, h, ht => by
  have hy := h.cons
  rw [chR, pre1_at (chR_tk i hy.2) (by show (0 : Int) ≤ y.f1; omega), atS_cons, atS_cons]
  simp only
  by_cases c : t < y.f1
  ·rw [if_pos c, if_pos c, if_pos rfl]
  ·rw [if_neg c, if_neg c]
   exact chR_at i (t - y.f1) hy.2 (by omega)
theorem clR_at : ∀ {l : List S61} (t : Int), Tk l → atS (clR l) t = atS l t
 | [], t, h => rfl
 | y :: l, t, h => by
  have hy := h.cons
  rw [clR, pre1_at (clR_tk hy.2) (by omega), atS_cons, atS_cons, clR_at _ hy.2]
theorem atS_m {m : Int} : ∀ {l : List S61} {t : Int}, RunsM m l → (atS l t).2 = true → 0 ≤ (atS l t).1 ∧ (atS l t).1 ≤ m
 | [], t, h, ht => by cases ht
 | y :: l, t, h, ht => by
  rw [atS_cons] at ht ⊢
  by_cases c : t < y.f1
  ·rw [if_pos c]
   have := h y (by simp)
   exact ⟨this.1, this.2.1⟩
  ·rw [if_neg c] at ht ⊢
   exact atS_m (fun x hx => h x (by simp [hx])) ht
theorem bits_one {p q i : Nat} (h : ∀ k, k ≠ i → p.testBit k = q.testBit k) (hp : p.testBit i = true) (hq : q.testBit i = false) : p = q + 2 ^ i := by
 have e1 : p % 2 ^ i = q % 2 ^ i := Nat.eq_of_testBit_eq fun k => by
  rw [Nat.testBit_mod_two_pow, Nat.testBit_mod_two_pow]
  by_cases c : k < i
  ·rw [h k (by omega)]
  ·rw [decide_eq_false c, Bool.false_and, Bool.false_and]
 have e2 : p / 2 ^ (i + 1) = q / 2 ^ (i + 1) := Nat.eq_of_testBit_eq fun k => by
  rw [Nat.testBit_div_two_pow, Nat.testBit_div_two_pow]
  exact h _ (by omega)
 rw [Nat.pow_succ, ← Nat.div_div_eq_div_mul, ← Nat.div_div_eq_div_mul] at e2
 have hp' : p / 2 ^ i % 2 = 1 := by
  rw [Nat.testBit_eq_decide_div_mod_eq] at hp
  simpa using hp
 have hq' : ¬ q / 2 ^ i % 2 = 1 := by
  rw [Nat.testBit_eq_decide_div_mod_eq] at hq
  simpa using hq
 have d1 := Nat.div_add_mod p (2 ^ i)
 have d2 := Nat.div_add_mod q (2 ^ i)
 have e3 : p / 2 ^ i = q / 2 ^ i + 1 := by omega
 rw [e3, e1, Nat.mul_add, Nat.mul_one] at d1
 omega
/-- Two levels whose bits are alike but one. -/
theorem lev_one {n i : Nat} {p q : Int} (hn : n ≤ 16) (hi : i < n) (hp : 0 ≤ p ∧ p < ((2 ^ n : Nat) : Int)) (hq : 0 ≤ q ∧ q < ((2 ^ n : Nat) : Int)) (h : ∀ k : Nat, k < n → k ≠ i → bit p (k : Int) = bit q (k : Int)) (hd : ¬ bit p (i : Int) = bit q (i : Int)) : p - q = ((2 ^ i : Nat) : Int) ∨ q - p = ((2 ^ i : Nat) : Int) := by
 obtain ⟨a, rfl⟩ := Int.eq_ofNat_of_zero_le hp.1
 obtain ⟨b, rfl⟩ := Int.eq_ofNat_of_zero_le hq.1
 have h16 : 2 ^ n ≤ 65536 := Nat.pow_le_pow_right (by decide) hn
 have ha : a < 2 ^ n := by omega
 have hb : b < 2 ^ n := by omega
 have hall : ∀ k, k ≠ i → a.testBit k = b.testBit k := by
  intro k hk
  by_cases c : k < n
  ·have := h k c hk
   rw [bitN (by omega) (by omega), bitN (by omega) (by omega)] at this
   cases e1 : a.testBit k <;> cases e2 : b.testBit k <;> simp_all
  ·have h1 : 2 ^ n ≤ 2 ^ k := Nat.pow_le_pow_right (by decide) (by omega)
   rw [Nat.testBit_lt_two_pow (by omega), Nat.testBit_lt_two_pow (by omega)]
 rw [bitN (by omega) (by omega), bitN (by omega) (by omega)] at hd
 cases e1 : a.testBit i <;> cases e2 : b.testBit i
 ·simp [e1, e2] at hd
 ·have := bits_one (fun k hk => (hall k hk).symm) e2 e1
  omega
 ·have := bits_one hall e1 e2
  omega
 ·simp [e1, e2] at hd
theorem lev_same {n : Nat} {p q : Int} (hn : n ≤ 16) (hp : 0 ≤ p ∧ p < ((2 ^ n : Nat) : Int)) (hq : 0 ≤ q ∧ q < ((2 ^ n : Nat) : Int)) (h : ∀ k : Nat, k < n → bit p (k : Int) = bit q (k : Int)) : p = q := by
 obtain ⟨a, rfl⟩ := Int.eq_ofNat_of_zero_le hp.1
 obtain ⟨b, rfl⟩ := Int.eq_ofNat_of_zero_le hq.1
 have h16 : 2 ^ n ≤ 65536 := Nat.pow_le_pow_right (by decide) hn
 have ha : a < 2 ^ n := by omega
 have hb : b < 2 ^ n := by omega
 have : a = b := Nat.eq_of_testBit_eq fun k => by
  by_cases c : k < n
  ·have := h k c
   rw [bitN (by omega) (by omega), bitN (by omega) (by omega)] at this
   cases e1 : a.testBit k <;> cases e2 : b.testBit k <;> simp_all
  ·have h1 : 2 ^ n ≤ 2 ^ k := Nat.pow_le_pow_right (by decide) (by omega)
   rw [Nat.testBit_lt_two_pow (by omega), Nat.testBit_lt_two_pow (by omega)]
 omega
/-- A glitch in a valid capture, without an error: which channel it changes, and how. -/
theorem glV_good {l : List ByteArray} {r : List S61} {x : S49} (hc : chkV l r = 0) (h : (glV l r x).2.2 = 0) :
  ∃ (i : Nat) (R : List S61), ixS x.f0 0 l = (i : Int) ∧ i < l.length ∧ glV l r x = (l, R, 0) ∧ chkV l R = 0 ∧ sm R = sm r ∧ (insV (chR (i : Int) r) x.f1 x.f2).2 = 0 ∧ chR (i : Int) R = (insV (chR (i : Int) r) x.f1 x.f2).1 ∧ ∀ k : Nat, k < l.length → k ≠ i → chR (k : Int) R = chR (k : Int) r := by
 have hch := chk_0 hc
 have hn := nms_0 hch.2.1
 have h00 := smM_nonneg hch.2.2.1
 have h' := h
 unfold glV at h'
 by_cases c : ixS x.f0 0 l < 0
 ·rw [if_pos c] at h'
  cases h'
 ·obtain ⟨i, e, hi⟩ := ixS_lt c
  have hk := chan_okL hc hi
  have eV : glV l r x = if (insV (chR (i : Int) r) x.f1 x.f2).2 = 0 then bldV l ((chs 0 l.length r).set i (insV (chR (i : Int) r) x.f1 x.f2).1) else ([], [], (insV (chR (i : Int) r) x.f1 x.f2).2) := by
   unfold glV
   rw [if_neg c, e, Int.toNat_natCast]
  by_cases c1 : (insV (chR (i : Int) r) x.f1 x.f2).2 = 0
  ·rw [if_pos c1] at eV
   have ho := insV_ok hk.2.2.1 c1
   rcases bld_ok hc hi ho.1 (ho.2.1.trans hk.2.2.2) ho.2.2.1 with e1 | ⟨R, e1, h1, h2, hm⟩
   ·rw [eV, e1] at h
    cases h
   ·obtain ⟨w1, w2, w3⟩ := ws_ok hc hi ho.1 (ho.2.1.trans hk.2.2.2) ho.2.2.1
    generalize hv : (insV (chR (i : Int) r) x.f1 x.f2).1 = v at *
    have hchan : ∀ k : Nat, k < l.length → ∀ u, ((chs 0 l.length r).set i v)[k]? = some u → chR (k : Int) R = clR u := by
     intro k hk' u hu
     have hlen : k < ((chs 0 l.length r).set i v).length := by omega
     have hu' : ((chs 0 l.length r).set i v)[k] = u := by
      rw [List.getElem?_eq_getElem hlen] at hu
      exact Option.some.inj hu
     have hsplit : (chs 0 l.length r).set i v = ((chs 0 l.length r).set i v).take k ++ u :: ((chs 0 l.length r).set i v).drop (k + 1) := by
      rw [← hu', List.getElem_cons_drop, List.take_append_drop]
     have hR : Rem (sm r) ((chs 0 l.length r).set i v) := fun y hy => ⟨(vld_ok (w1 y hy).1).2.1, (w1 y hy).2⟩
     have hL : Lv ((chs 0 l.length r).set i v) := fun y hy => (vld_iff.1 (w1 y hy).1).2.1
     have hT : (((chs 0 l.length r).set i v).take k).length = k := by
      rw [List.length_take]
      omega
     rw [hsplit] at hR hL hm
     have hlen' : (((chs 0 l.length r).set i v).take k ++ u :: ((chs 0 l.length r).set i v).drop (k + 1)).length ≤ 16 := by
      rw [← hsplit]
      omega
     have g := mrg_chan (sm r).toNat [] (((chs 0 l.length r).set i v).take k) u (((chs 0 l.length r).set i v).drop (k + 1)) (sm r) hR (by omega) h00 hL hlen'
     rw [hT, ← hm, chC_eq] at g
     rw [g, ← cln_eq]
     rfl
    refine ⟨i, R, e, hi, by rw [eV]; exact e1, h1, h2, c1, ?_, fun k hk1 hk2 => ?_⟩
    ·rw [hv, hchan i hi v (by rw [List.getElem?_set_self (by rw [chs_len]; exact hi)])]
     rw [← cln_eq, cln_jn, jn_of_apart ho.2.2.2.1]
    ·rw [hchan k hk1 (chR (k : Int) r) (by rw [List.getElem?_set_ne (fun h => hk2 h.symm), chs_get r hk1]), clR_chR]
  ·rw [eV, if_neg c1] at h
   exact absurd h c1
theorem eqR_eq : ∀ (a b : List S61), a.length = b.length → eqR a b = true → a = b
 | [], [], _, _ => rfl
 | [], _ :: _, h, _ => by simp at h
 | _ :: _, [], h, _ => by simp at h
 | x :: a, y :: b, h, e => by
  unfold eqR at e
  by_cases c : x.f0 = y.f0 ∧ x.f1 = y.f1
  ·rw [if_pos c] at e
   have hxy : x = y := by
    cases x
    cases y
    simp only at c
    rw [c.1, c.2]
   rw [hxy, eqR_eq a b (by simpa using h) e]
  ·rw [if_neg c] at e
   cases e
theorem und_twice {l : List ByteArray} {r : List S61} {x : S49} (hc : chkV l r = 0) (hr : clR r = r) {R : List S61} (h : glV l r x = (l, R, 0)) : glV l R x = (l, r, 0) := by
 obtain ⟨i, R', e, hi, eV, hcR, hsm, hz, hw, hk⟩ := glV_good hc (by rw [h])
 rw [h] at eV
 obtain rfl : R = R' := by
  have := congrArg (fun p => p.2.1) eV
  exact this
 have hv := chan_okL hc hi
 have h2 := insV_twice hz
 have ecl : cleanV (chR (i : Int) r) = chR (i : Int) r := by
  unfold cleanV
  rw [if_pos hv.2.2.1, ← cln_jn, cln_eq, clR_chR]
 rw [ecl] at h2
 have eset : (chs 0 l.length R).set i (chR (i : Int) r) = chs 0 l.length r := by
  apply List.ext_getElem?
  intro k
  by_cases c : k < l.length
  ·by_cases c1 : k = i
   ·subst c1
    rw [List.getElem?_set_self (by rw [chs_len]; exact hi), chs_get r hi]
   ·rw [List.getElem?_set_ne (fun h => c1 h.symm), chs_get R c, chs_get r c, hk k c c1]
  ·rw [List.getElem?_eq_none (by rw [List.length_set, chs_len]; omega), List.getElem?_eq_none (by rw [chs_len]; omega)]
 have hb := bldV_chs hc
 rw [hr] at hb
 unfold glV
 rw [e, if_neg (by omega), hw, h2.2, if_pos rfl, Int.toNat_natCast, eset, hb]
theorem und_diff {l : List ByteArray} {r : List S61} {x : S49} (hc : chkV l r = 0) {R : List S61} (h : glV l r x = (l, R, 0)) : ¬ clR R = clR r := by
 obtain ⟨i, R', e, hi, eV, hcR, hsm, hz, hw, hk⟩ := glV_good hc (by rw [h])
 rw [h] at eV
 obtain rfl : R = R' := congrArg (fun p => p.2.1) eV
 intro he
 have hv := chan_okL hc hi
 have ho := insV_ok hv.2.2.1 hz
 have hok := (vld_iff.1 hv.2.2.1).2.1
 have e1 : chR (i : Int) R = chR (i : Int) r := by
  rw [← chR_clR (i : Int) R, he, chR_clR]
 rw [hw, ho.2.2.2.2.2] at e1
 have g := ho.2.2.2.2.1
 have e2 := jn_at (insL_ok x.f1 x.f2 hok) x.f1
 rw [e1, insL_at hok g (by omega), if_pos (by omega)] at e2
 have h3 : (atS (chR (i : Int) r) x.f1).2 = true := atS_in hok.m1 (by omega) (by omega)
 unfold flipA at e2
 rw [if_pos h3] at e2
 have := congrArg Prod.fst e2
 simp only at this
 omega
theorem und_at {l : List ByteArray} {r : List S61} {x : S49} (hc : chkV l r = 0) {R : List S61} (h : glV l r x = (l, R, 0)) {i : Nat} (hix : ixS x.f0 0 l = (i : Int)) {u : Int} (h0 : 0 ≤ u) (hu : u < sm r) :
  (atS r u).2 = true ∧ (atS R u).2 = true ∧ if x.f1 ≤ u ∧ u < x.f1 + x.f2 then ((atS r u).1 - (atS R u).1 = ((2 ^ i : Nat) : Int) ∨ (atS R u).1 - (atS r u).1 = ((2 ^ i : Nat) : Int)) else (atS r u).1 = (atS R u).1 := by
 obtain ⟨i', R', e, hi, eV, hcR, hsm, hz, hw, hk⟩ := glV_good hc (by rw [h])
 obtain rfl : i = i' := by omega
 rw [h] at eV
 obtain rfl : R = R' := congrArg (fun p => p.2.1) eV
 have hch := chk_0 hc
 have hchR := chk_0 hcR
 have hn := nms_0 hch.2.1
 have hv := chan_okL hc hi
 have ho := insV_ok hv.2.2.1 hz
 have hok := (vld_iff.1 hv.2.2.1).2.1
 have i1 : (atS r u).2 = true := atS_in hch.2.2.1 h0 hu
 have i2 : (atS R u).2 = true := atS_in hchR.2.2.1 h0 (by omega)
 have b1 := atS_m hch.2.2.1 i1
 have b2 := atS_m hchR.2.2.1 i2
 rw [mk_eq hn.1] at b1 b2
 have bk : ∀ k : Nat, bit (atS r u).1 (k : Int) = (atS (chR (k : Int) r) u).1 := by
  intro k
  rw [chR_at _ _ hch.2.2.1.tk h0, if_pos i1]
 have bK : ∀ k : Nat, bit (atS R u).1 (k : Int) = (atS (chR (k : Int) R) u).1 := by
  intro k
  rw [chR_at _ _ hchR.2.2.1.tk h0, if_pos i2]
 have hoth : ∀ k : Nat, k < l.length → k ≠ i → bit (atS r u).1 (k : Int) = bit (atS R u).1 (k : Int) := by
  intro k hk1 hk2
  rw [bk, bK, hk k hk1 hk2]
 have hmid : atS (chR (i : Int) R) u = if x.f1 ≤ u ∧ u < x.f1 + x.f2 then flipA (atS (chR (i : Int) r) u) else atS (chR (i : Int) r) u := by
  rw [hw, ho.2.2.2.2.2, jn_at (insL_ok x.f1 x.f2 hok), insL_at hok ho.2.2.2.2.1 h0]
 have h3 : (atS (chR (i : Int) r) u).2 = true := atS_in hok.m1 h0 (by rw [hv.2.2.2]; exact hu)
 refine ⟨i1, i2, ?_⟩
 by_cases c : x.f1 ≤ u ∧ u < x.f1 + x.f2
 ·rw [if_pos c] at hmid ⊢
  refine lev_one hn.1 hi (by omega) (by omega) hoth ?_
  rw [bk, bK, hmid]
  unfold flipA
  rw [if_pos h3]
  simp only
  omega
 ·rw [if_neg c] at hmid ⊢
  refine lev_same hn.1 (by omega) (by omega) fun k hk1 => ?_
  by_cases c1 : k = i
  ·subst c1
   rw [bk, bK, hmid]
  ·exact hoth k hk1 c1
theorem und_l0 {l : List ByteArray} {r R : List S61} {g : ByteArray} {a t u : Int} {i : Nat} (hl : l.length ≤ 16) (h : Ev (fun k => lw_InjectUndoes.j2 k u ((2 ^ i : Nat) : Int) l r g a t l R) true) : ∀ (post pre : List ByteArray), l = pre ++ post → ixS g pre.length post = (i : Int) →
  Ev (fun k => lw_InjectUndoes.l0 k u ((2 ^ pre.length : Nat) : Int) (pre.length : Int) l r g a t l R) true
 | [], pre, e, hix => by
  unfold ixS at hix
  omega
 | x :: post, pre, e, hix => by
  have hpl : pre.length < l.length := by
   rw [e]
   simp only [List.length_append, List.length_cons]
   omega
  have hlt : (pre.length : Int) < (l.length : Int) := by omega
  have hr : rdOf ByteArray.empty l (pre.length : Int) = x := by
   rw [e]
   exact rds_mid pre post x
  unfold ixS at hix
  by_cases c : g.toList = x.toList
  ·rw [if_pos c] at hix
   have : pre.length = i := by omega
   rw [this] at hlt hr ⊢
   refine Ev.step (fun k => ?_) h
   simp only [lw_InjectUndoes.l0]
   rw [if_pos hlt, if_pos (Int.natCast_nonneg _), hr, if_pos c.symm]
  ·rw [if_neg c] at hix
   have ih := und_l0 hl h post (pre ++ [x]) (by simpa using e) (by simpa using hix)
   have hp : 2 ^ pre.length ≤ 2 ^ 16 := Nat.pow_le_pow_right (by decide) (by omega)
   have ep : wrap64 (((2 ^ pre.length : Nat) : Int) * 2) = ((2 ^ (pre ++ [x]).length : Nat) : Int) := by
    generalize hz : 2 ^ pre.length = z at hp ⊢
    rw [w64 (by omega) (by omega)]
    simp only [List.length_append, List.length_cons, List.length_nil, Nat.pow_succ, Nat.zero_add, hz]
    omega
   refine Ev.step (fun k => ?_) ih
   simp only [lw_InjectUndoes.l0]
   rw [if_pos hlt, if_pos (Int.natCast_nonneg _), hr, if_neg (fun h => c h.symm), ep, succ_mid pre x (by omega)]
theorem InjectUndoes_pure {l : List ByteArray} {r : List S61} {g : ByteArray} {a t u : Int} (hs : StrsOk l) (hl : l.length ≤ 140737488351232) (hr : r.length ≤ 140737488351232) (ha : (Lit.int .i64 a).wf = true) (ht : (Lit.int .i64 t).wf = true) (hu : (Lit.int .i64 u).wf = true) : ∃ k, lw_InjectUndoes.f k l r g a t u = some true := by
 have hwa := wf64 ha
 have hwt := wf64 ht
 have hwu := wf64 hu
 have hg1 : ∀ x ∈ [(⟨g, a, t⟩ : S49)], GlWf x := fun x hx => by
  rcases List.mem_singleton.1 hx with rfl
  exact ⟨ha, ht⟩
 have hg2 : ∀ x ∈ [(⟨g, a, t⟩ : S49), ⟨g, a, t⟩], GlWf x := fun x hx => by
  simp only [List.mem_cons, List.not_mem_nil, or_false, or_self] at hx
  subst hx
  exact ⟨ha, ht⟩
 refine Ev.rounds ?_
 by_cases c0 : (r.length : Int) > 2000
 ·exact Ev.congr (fun k => if_pos c0) awake50_then
 ·have hG1 := Glitches_ev hs hl hr hg1 (by simp)
  have hG2 := Glitches_ev hs hl hr hg2 (by simp)
  refine Ev.congr (fun k => if_neg c0) (Ev.bind hG1 ?_)
  by_cases c : chkV l r = 0
  ·have hch := chk_0 c
   have hn := nms_0 hch.2.1
   have hC := chk_clR c
   have e1 : glAll l r [(⟨g, a, t⟩ : S49)] = if (glV l (clR r) ⟨g, a, t⟩).2.2 = 0 then ((glV l (clR r) ⟨g, a, t⟩).1, (glV l (clR r) ⟨g, a, t⟩).2.1, 0) else ([], [], (glV l (clR r) ⟨g, a, t⟩).2.2) := by
    unfold glAll
    rw [if_pos c]
    rfl
   by_cases c1 : (glV l (clR r) ⟨g, a, t⟩).2.2 = 0
   ·obtain ⟨i, R, eix, hi, eV, hcR, hsm, hz, hw, hk⟩ := glV_good hC c1
    have htw := und_twice hC (clR_clR r) eV
    have hdf := und_diff hC eV
    have hat := fun (u : Int) (h0 : 0 ≤ u) (h1 : u < sm (clR r)) => und_at hC eV eix h0 h1
    have ho := insV_ok (chan_okL hC hi).2.2.1 hz
    have hrng := ho.2.2.2.2.1
    rw [(chan_okL hC hi).2.2.2] at hrng
    simp only at hrng
    have hsr : sm (clR r) = sm r := clR_sm r
    have h00 := smM_nonneg hch.2.2.1
    rw [if_pos c1, eV] at e1
    have e2 : glAll l r [(⟨g, a, t⟩ : S49), ⟨g, a, t⟩] = (l, clR r, 0) := by
     unfold glAll
     rw [if_pos c]
     unfold glsV
     rw [if_pos c1, eV]
     unfold glsV
     rw [htw]
     rfl
    rw [e2] at hG2
    rw [e1]
    have hRl := (chk_0 hcR).1
    have hCl := (chk_0 hC).1
    have hS1 := Same_ev hs hs hl hl (show (clR r).length ≤ 140737488351232 by omega) hr
    have hS2 := Same_ev hs hs hl hl (show R.length ≤ 140737488351232 by omega) hr
    have s1 : samV l (clR r) l r = true := by
     unfold samV
     rw [if_pos ⟨hC, c, eqSV_refl l⟩, cln_eq, cln_eq, clR_clR, eqRV_refl]
    have s2 : samV l R l r = false := by
     unfold samV
     rw [if_pos ⟨hcR, c, eqSV_refl l⟩, cln_eq, cln_eq]
     cases e : eqRV (clR R) (clR r)
     ·rfl
     ·exfalso
      unfold eqRV at e
      by_cases c5 : (clR R).length = (clR r).length
      ·rw [if_pos c5] at e
       exact hdf (by rw [clR_clR]; exact eqR_eq _ _ c5 e)
      ·rw [if_neg c5] at e
       cases e
    rw [s1] at hS1
    rw [s2] at hS2
    have hL1 := Long_ev hs hl (show R.length ≤ 140737488351232 by omega)
    have hL2 := Long_ev hs hl hr
    unfold longC at hL1 hL2
    rw [if_pos hcR] at hL1
    rw [if_pos c] at hL2
    have hA1 := At_ev (t := u) hs hl hr hwu.2
    have hA2 := At_ev (t := u) hs hl (show R.length ≤ 140737488351232 by omega) hwu.2
    unfold atC at hA1 hA2
    rw [if_pos c] at hA1
    rw [if_pos hcR] at hA2
    have hst2 : ∀ k, lw_InjectUndoes.j2 (k + 1) u ((2 ^ i : Nat) : Int) l r g a t l R = ((capture_At.f k l r u).bind fun bt847 => ((capture_At.f k l R u).bind fun bt849 => (if (bt847.2 != bt849.2) = true then (none) else (if bt847.2 = true then (if u ≥ a then (lw_InjectUndoes.j3 k ((2 ^ i : Nat) : Int) bt847.1 bt849.1 (decide ((wrap64 (u - a)) < t))) else (lw_InjectUndoes.j3 k ((2 ^ i : Nat) : Int) bt847.1 bt849.1 false)) else ((lw_awake.f k).bind fun t851 => (some t851)))))) := fun k => by
     simp only [lw_InjectUndoes.j2]
    have hj2 : Ev (fun k => lw_InjectUndoes.j2 k u ((2 ^ i : Nat) : Int) l r g a t l R) true := by
     by_cases d0 : u < 0
     ·rw [if_pos d0] at hA1 hA2
      exact Ev.step hst2 (Ev.bind hA1 (Ev.bind hA2 (Ev.congr (fun k => (if_neg (by decide)).trans (if_neg (by decide))) awake50_then)))
     ·rw [if_neg d0] at hA1 hA2
      by_cases d1 : u < sm r
      ·have hq := hat u (by omega) (by omega)
       have er : atS (clR r) u = atS r u := clR_at u hch.2.2.1.tk
       rw [er] at hq
       obtain ⟨q1, q2, q3⟩ := hq
       simp only at q3
       generalize hpv : atS r u = pv at hA1 q1 q3
       generalize hqv : atS R u = qv at hA2 q2 q3
       obtain ⟨pv1, pv2⟩ := pv
       obtain ⟨qv1, qv2⟩ := qv
       simp only at q1 q2 q3
       subst q1
       subst q2
       have hp16 : 2 ^ i ≤ 2 ^ 16 := Nat.pow_le_pow_right (by decide) (by omega)
       have hp0 : 0 < 2 ^ i := Nat.pos_of_ne_zero (by simp)
       have bp := atS_m hch.2.2.1 (t := u) (by rw [hpv])
       have bq := atS_m (chk_0 hcR).2.2.1 (t := u) (by rw [hqv])
       rw [hpv, mk_eq hn.1] at bp
       rw [hqv, mk_eq hn.1] at bq
       have h2n : 2 ^ l.length ≤ 2 ^ 16 := Nat.pow_le_pow_right (by decide) hn.1
       simp only at bp bq
       have hj3 : ∀ b : Bool, b = decide (a ≤ u ∧ u < a + t) → Ev (fun k => lw_InjectUndoes.j3 k ((2 ^ i : Nat) : Int) pv1 qv1 b) true := by
        intro b hb
        by_cases d2 : a ≤ u ∧ u < a + t
        ·rw [decide_eq_true d2] at hb
         subst hb
         rw [if_pos d2] at q3
         by_cases d3 : pv1 - qv1 = ((2 ^ i : Nat) : Int)
         ·refine Ev.step (fun k => ?_) awake50_then
          simp only [lw_InjectUndoes.j3]
          rw [if_pos trivial, if_neg (by omega), w64 (by omega) (by omega), if_pos d3]
         ·refine Ev.step (fun k => ?_) awake50_then
          simp only [lw_InjectUndoes.j3]
          rw [if_pos trivial, if_neg (by omega), w64 (by omega) (by omega), if_neg d3, w64 (by omega) (by omega), if_pos (by omega)]
        ·rw [decide_eq_false d2] at hb
         subst hb
         rw [if_neg d2] at q3
         refine Ev.step (fun k => ?_) awake50_then
         simp only [lw_InjectUndoes.j3]
         rw [if_neg (by decide), if_pos q3]
       by_cases d4 : u ≥ a
       ·have h9 := hj3 (decide ((wrap64 (u - a)) < t)) (by
         rw [w64 (by omega) (by omega)]
         by_cases d5 : u - a < t
         ·rw [decide_eq_true d5, decide_eq_true (by omega)]
         ·rw [decide_eq_false d5, decide_eq_false (by omega)])
        exact Ev.step hst2 (Ev.bind hA1 (Ev.bind hA2 (Ev.congr (fun k => (if_neg (by simp)).trans ((if_pos rfl).trans (if_pos d4))) h9)))
       ·have h9 := hj3 false (by rw [decide_eq_false (by omega)])
        exact Ev.step hst2 (Ev.bind hA1 (Ev.bind hA2 (Ev.congr (fun k => (if_neg (by simp)).trans ((if_pos rfl).trans (if_neg d4))) h9)))
      ·rw [atS_out hch.2.2.1 (by omega)] at hA1
       rw [atS_out (chk_0 hcR).2.2.1 (by omega)] at hA2
       exact Ev.step hst2 (Ev.bind hA1 (Ev.bind hA2 (Ev.congr (fun k => (if_neg (by decide)).trans (if_neg (by decide))) awake50_then)))
    have hl0 := und_l0 (r := r) (R := R) (g := g) (a := a) (t := t) (u := u) hn.1 hj2 l [] rfl eix
    refine Ev.congr (fun k => if_pos rfl) (Ev.bind hG2 (Ev.congr (fun k => if_pos rfl) (Ev.bind hS1 (Ev.congr (fun k => if_pos rfl) (Ev.bind hS2 (Ev.congr (fun k => if_neg (by decide)) (Ev.bind hL1 (Ev.bind hL2 ?_))))))))
    refine Ev.step (fun k => ?_) hl0
    simp only [lw_InjectUndoes.j0]
    rw [if_neg (by simp [hsm, hsr])]
    rfl
   ·rw [if_neg c1] at e1
    rw [e1]
    exact Ev.congr (fun k => (if_neg c1).trans ((if_pos rfl).trans (if_pos rfl))) awake50_then
  ·have e1 : glAll l r [(⟨g, a, t⟩ : S49)] = ([], [], chkV l r) := by
    unfold glAll
    rw [if_neg c]
   rw [e1]
   exact Ev.congr (fun k => (if_neg c).trans ((if_pos rfl).trans (if_pos rfl))) awake50_then
end Go.Proofs.Ytkcekcnnjheamaa
