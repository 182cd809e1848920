/- A slice that is made with a length and a capacity of its own, and a row of structs that is copied into one of the call's own rows. -/
import Derived.Laws.CopyRow
import Derived.Laws.IdiomCopy
import Derived.Scope
import Derived.Test.YtdbpablakhfdcaaWNEv
import Derived.Test.YtdbpablakhfdcaaWMore
import Derived.Test.YtdbpablakhfdcaaWRepsOne
import Derived.Test.YtdbpablakhfdcaaWLast
namespace Go.Proofs.YtdbpablakhfdcaaW.PrintWords
open Go.RowKit
set_option linter.unusedVariables false
theorem setCell_drewN (w : World) (n : Nat) (a : Addr) (v : Value) : (w.drewN n).setCell a v = (w.setCell a v).drewN n := rfl
theorem cell_drewN {W V : World} {n : Nat} (h : V = W.drewN n) (a : Addr) : V.cell? a = W.cell? a := by
  subst h
  rfl
namespace Kd
section
variable {α : Type}
theorem R_made (d : Kd α) {W : World} (base e : Nat) {xs : List α} {inner : List Value} {ok okp : Nat → Prop}
    (hrep : Reps (d.M W base okp) d.sz xs inner) (hok : ∀ k, okp k → ok k) (hfresh : ok W.heap.size) (hbase : base ≤ W.heap.size) (hm : xs.length ≤ 9223372036854775807) :
    d.R e (W.alloc (.cells inner.toArray e)) base ok (.slice (some ⟨W.heap.size, 0, none⟩) xs.length xs.length) xs := by
  refine ⟨fun k hk => ?_, inner, ?_, ?_⟩
  · have : W.heap.size = k := by simpa [Value.ownBlock] using hk
    subst this
    exact hfresh
  · have h2 := World.ownsRow_lit (base := base) (e := e) (size := d.sz) W inner.toArray xs.length hbase (by simpa [maxLen] using hm) (by simpa using hrep.1)
    simpa using h2
  · refine hrep.imp_ (fun p c hp => d.M_mono (fun k hk => ⟨hok k hk.1, fun he => ?_⟩) (M_below (d.M_bound hp) (below_alloc (Below.refl _ _) _)))
    have h3 : k = W.heap.size := by simpa [Value.ownBlock] using he
    have := hk.2.2.1
    omega
theorem run_makecap {P : Program} {W : World} {e t : TypeId} {bytes size l m : Nat} {z : Value} (hlm : l ≤ m) (ht : P.underlying t = some (.slice e))
    (hinfo : (P.info? e).map (fun i => (i.zero, i.size, i.bytes)) = some (some z, size, bytes)) (hb0 : 0 < bytes) (hl : m * bytes ≤ 281474976710656) :
    (Instr.makeSlice t (.int .i64 (l : Int)) (.int .i64 (m : Int))).run P W = .ok (.slice (some ⟨W.heap.size, 0, none⟩) l m) (W.alloc (.cells (madeCells z.cells (m * size)) e)) := by
  obtain ⟨i0, hi, hzz⟩ := Option.map_eq_some_iff.1 hinfo
  simp only [Prod.mk.injEq] at hzz
  obtain ⟨hz0, hz1, hz2⟩ := hzz
  have hm : m ≤ 281474976710656 := Nat.le_trans (Nat.le_mul_of_pos_right _ hb0) hl
  have hr := run_make (P := P) W t e i0 z ht hi hz0 .i64 .i64 (l : Int) (m : Int) (by omega) (by omega)
    (by
      have h3 : ((i0.bytes * m : Nat) : Int) ≤ 281474976710656 := by rw [hz2, Nat.mul_comm]; omega
      rwa [Int.natCast_mul] at h3) (by omega)
  simp only [Int.toNat_natCast] at hr
  rw [hz1] at hr
  exact hr
theorem R_empty (d : Kd α) {W : World} (base e : Nat) {z : Value} {l m : Nat} (hlm : l ≤ m) (hz : z.cells.size = d.sz) (hs0 : 0 < d.sz) (z0 : α) {ok okp : Nat → Prop} (hzero : d.M W base okp z0 z.cells.toList) (hok : ∀ k, okp k → ok k) (hfresh : ok W.heap.size)
    (hbase : base ≤ W.heap.size) (hm : m ≤ 281474976710656) : d.R e (W.alloc (.cells (madeCells z.cells (m * d.sz)) e)) base ok (.slice (some ⟨W.heap.size, 0, none⟩) l m) (List.replicate l z0) := by
  have h1 := R_made d base e (xs := List.replicate m z0) (inner := (madeCells z.cells (m * d.sz)).toList) (okp := okp) (ok := ok) (reps_made hz hs0 hzero m) hok hfresh hbase (by simp; omega)
  simp only [Array.toArray_toList, List.length_replicate] at h1
  have h2 := R_take h1 (m := l) (by simpa using hlm)
  rw [List.take_replicate, Nat.min_eq_left hlm] at h2
  exact h2
end
section
variable {P : Program} {ops : Array Oper} {rest : List Oper} {o : Oper} {a : Act} {Q : Exit → Act → World → Prop} {α : Type}
/-- make([]T, 0, m). -/
theorem R_makecap (d : Kd α) {w0 W : World} (base e : Nat) (hgd : o.guard = none) {N : Tmp} (_hd : o.dst = some N) (t : TypeId) (x y : Operand) (ho : o.op = .makeSlice t x y) (l : Nat) (n : Int) (hx : a.eval x = .int .i64 (l : Int)) (hy : a.eval y = .int .i64 n)
    (ht : P.underlying t = some (.slice e)) (z : Value) (bytes : Nat) (hinfo : (P.info? e).map (fun i => (i.zero, i.size, i.bytes)) = some (some z, d.sz, bytes)) (hz : z.cells.size = d.sz) (hs0 : 0 < d.sz) (hb0 : 0 < bytes)
    (z0 : α) {ok okp : Nat → Prop} (hzero : d.M W base okp z0 z.cells.toList) (hok : ∀ k, okp k → ok k) (hfresh : ok W.heap.size) (h0 : (l : Int) ≤ n) (hl : n.toNat * bytes ≤ 281474976710656) (HB : Below base w0 W) (hbase : base ≤ W.heap.size)
    (h : ∀ v1 w1, d.R e w1 base ok v1 (List.replicate l z0) → Below base w0 w1 → W.grownBy w1 none → (∃ b, v1.ownBlock = some b ∧ W.heap.size ≤ b) → wpList P ops Q rest (a.put o.dst v1) w1) : wpList P ops Q (o :: rest) a W := by
  obtain ⟨m, rfl⟩ := Int.eq_ofNat_of_zero_le (Int.le_trans (Int.natCast_nonneg l) h0)
  simp only [Int.toNat_natCast] at hl
  have hr := run_makecap (P := P) (W := W) (l := l) (m := m) (by omega) ht hinfo hb0 hl
  have hm : m ≤ 281474976710656 := Nat.le_trans (Nat.le_mul_of_pos_right _ hb0) hl
  refine event_run hgd (v := .slice (some ⟨W.heap.size, 0, none⟩) l m) (w1 := W.alloc (.cells (madeCells z.cells (m * d.sz)) e)) ?_ (h _ _ (R_empty d base e (by omega) hz hs0 z0 hzero hok hfresh hbase hm) (HB.alloc hbase _) (World.grownBy_alloc W _ none) ⟨W.heap.size, by simp [Value.ownBlock], Nat.le_refl _⟩)
  simp [execOp, ho, hx, hy, hr]
/-- The same of a row whose elements lead to rows. -/
theorem S_makecap (d : Kd α) {w0 W : World} (base e : Nat) (hgd : o.guard = none) {N : Tmp} (hd : o.dst = some N) (t : TypeId) (x y : Operand) (ho : o.op = .makeSlice t x y) (l : Nat) (n : Int) (hx : a.eval x = .int .i64 (l : Int)) (hy : a.eval y = .int .i64 n)
    (ht : P.underlying t = some (.slice e)) (z : Value) (bytes : Nat) (hinfo : (P.info? e).map (fun i => (i.zero, i.size, i.bytes)) = some (some z, d.sz, bytes)) (hz : z.cells.size = d.sz) (hs0 : 0 < d.sz) (hb0 : 0 < bytes)
    (z0 : α) {ok okp : Nat → Prop} (hzero : d.M W base (fun _ => False) z0 z.cells.toList) (_hok : ∀ k, okp k → ok k) (hfresh : ok W.heap.size) (h0 : (l : Int) ≤ n) (hl : n.toNat * bytes ≤ 281474976710656) (HB : Below base w0 W) (hbase : base ≤ W.heap.size)
    (h : ∀ v1 w1, S d e w1 base ok v1 (List.replicate l z0) → Below base w0 w1 → W.grownBy w1 none → (∃ b, v1.ownBlock = some b ∧ W.heap.size ≤ b) → wpList P ops Q rest (a.put o.dst v1) w1) : wpList P ops Q (o :: rest) a W :=
  R_makecap (bare d) base e hgd hd t x y ho l n hx hy ht z bytes hinfo hz hs0 hb0 z0 (ok := ok) (okp := ok) hzero (fun _ hk => hk) hfresh h0 hl HB hbase (fun v1 w1 hr => h v1 w1 (S_bare hr))
end
section
variable {P : Program} {ops : Array Oper} {o : Oper} {a : Act} {Q : Exit → Act → World → Prop} {Kc : Act → World → Prop} {α : Type}
theorem R_makecap_step (d : Kd α) {w0 W : World} (base e : Nat) (hw : Region.wanted o (yielded ops a.tmps) = true) {N : Tmp} (_hd : o.dst = some N) (t : TypeId) (x y : Operand) (ho : o.op = .makeSlice t x y) (l : Nat) (n : Int) (hx : a.eval x = .int .i64 (l : Int)) (hy : a.eval y = .int .i64 n)
    (ht : P.underlying t = some (.slice e)) (z : Value) (bytes : Nat) (hinfo : (P.info? e).map (fun i => (i.zero, i.size, i.bytes)) = some (some z, d.sz, bytes)) (hz : z.cells.size = d.sz) (hs0 : 0 < d.sz) (hb0 : 0 < bytes)
    (z0 : α) {ok okp : Nat → Prop} (hzero : d.M W base okp z0 z.cells.toList) (hok : ∀ k, okp k → ok k) (hfresh : ok W.heap.size) (h0 : (l : Int) ≤ n) (hl : n.toNat * bytes ≤ 281474976710656) (HB : Below base w0 W) (hbase : base ≤ W.heap.size)
    (h : ∀ v1 w1, d.R e w1 base ok v1 (List.replicate l z0) → Below base w0 w1 → W.grownBy w1 none → (∃ b, v1.ownBlock = some b ∧ W.heap.size ≤ b) → Kc (a.put o.dst v1) w1) : if Region.wanted o (yielded ops a.tmps) = true then Oper.wp P o a W Kc Q else Kc (a.put o.dst undef) W := by
  obtain ⟨m, rfl⟩ := Int.eq_ofNat_of_zero_le (Int.le_trans (Int.natCast_nonneg l) h0)
  simp only [Int.toNat_natCast] at hl
  have hr := run_makecap (P := P) (W := W) (l := l) (m := m) (by omega) ht hinfo hb0 hl
  have hm : m ≤ 281474976710656 := Nat.le_trans (Nat.le_mul_of_pos_right _ hb0) hl
  refine event_step hw (v := .slice (some ⟨W.heap.size, 0, none⟩) l m) (w1 := W.alloc (.cells (madeCells z.cells (m * d.sz)) e)) ?_ (h _ _ (R_empty d base e (by omega) hz hs0 z0 hzero hok hfresh hbase hm) (HB.alloc hbase _) (World.grownBy_alloc W _ none) ⟨W.heap.size, by simp [Value.ownBlock], Nat.le_refl _⟩)
  simp [execOp, ho, hx, hy, hr]
end
section
variable {P : Program} {ops : Array Oper} {rest : List Oper} {o : Oper} {a : Act} {Q : Exit → Act → World → Prop} {α : Type}
/-- What copy leaves of the row that is copied into. -/
def copyL (xs ys : List α) : List α := ys.take xs.length ++ xs.drop ys.length
theorem copyL_length (xs ys : List α) : (copyL xs ys).length = xs.length := by
  simp only [copyL, List.length_append, List.length_take, List.length_drop]
  omega
theorem run_copy_rows (w : World) (dT sT ty elem : TypeId) (g dLen dCap : Nat) (a : Addr) (sLen sCap sz : Nat) (cur : Array Value) (t : TypeId) (cs : List Value)
    (hu : P.underlying dT = some (.slice elem)) (hs : (P.info? elem).map (·.size) = some sz)
    (hg : w.heap[g]? = some (.cells cur t (0, 0))) (hn : cs.length = Nat.min sLen dLen * sz)
    (hsrc : ∀ j v, cs[j]? = some v → w.cell? (a.add j) = some v) (hfit : cs.length ≤ cur.size) (h1 : ∀ v ∈ cs, v.oneCell' = true) :
    (Builtin.copy_ #[dT, sT] ty #[.slice (some ⟨g, 0, none⟩) dLen dCap, .slice (some a) sLen sCap]).run P w =
      .ok (goInt ((Nat.min sLen dLen : Nat) : Int)) (w.setRow g (cs ++ cur.toList.drop cs.length).toArray) := by
  have hl := run_loadCells_list (P := P) w a cs hsrc
  have hst := run_storeCells_at P g 0 t cs 0 cur w hg (by simpa using hfit) h1
  simp only [Nat.zero_add, List.take_zero, List.nil_append] at hst
  cases hq : P.info? elem with
  | none => simp [hq] at hs
  | some i =>
    have hi : i.size = sz := by simpa [hq] using hs
    simp [Builtin.copy_, run_underlying hu, Builtin.lenOf, Builtin.firstCells, sizeOf, typeInfo, hq, hi, ← hn, hl, hst]
theorem run_copy_no (w : World) (dT sT ty elem : TypeId) (d a : Option Addr) (dLen dCap sLen sCap : Nat) (hu : P.underlying dT = some (.slice elem)) (hs : ((P.info? elem).map (·.size)).isSome = true) (hn : Nat.min sLen dLen = 0) :
    (Builtin.copy_ #[dT, sT] ty #[.slice d dLen dCap, .slice a sLen sCap]).run P w = .ok (goInt 0) w := by
  cases hq : P.info? elem with
  | none => simp [hq] at hs
  | some i =>
    have hl : ∀ (x : Addr), (loadCells x 0).run P w = .ok #[] w := fun x => by simpa using run_loadCells_list (P := P) w x [] (by simp)
    cases d <;> cases a <;> simp [Builtin.copy_, run_underlying hu, Builtin.lenOf, Builtin.firstCells, sizeOf, typeInfo, hq, hn, storeCells, hl]
theorem grownBy_setRow (w : World) (g : Nat) (cs : Array Value) : w.grownBy (w.setRow g cs) (some g) :=
  ⟨rfl, rfl, rfl, by simp [World.setRow], fun k _ hk => setRow_other w g k cs (fun e => hk (by rw [e]))⟩
/-- copy(v, ys), v a row of one's own. -/
theorem R_copy_rows (d : Kd α) {Rr : α → List Value → Prop} {w0 W : World} (base : Nat) (hgd : o.guard = none) (s x : Operand) (t e : TypeId) (z : Value) (bytes : Nat)
    (ho : o.op = .call { callee := .builtin .copy, args := #[s, x], argTypes := #[t, t] })
    (ht : P.underlying t = some (.slice e)) (hinfo : (P.info? e).map (fun i => (i.zero, i.size, i.bytes)) = some (some z, d.sz, bytes)) (hz : z.cells.size = d.sz) (hs0 : 0 < d.sz) (hb0 : 0 < bytes)
    (v : Value) (xs ys : List α) (A : Option Addr) (m c : Nat) (ok okp : Nat → Prop) (hs : a.eval s = v) (hx : a.eval x = .slice A m c)
    (HO : d.R e W base ok v xs) (HR : ReadsRow Rr d.sz W A m ys) (hKM : ∀ x cs, Rr x cs → d.M W base okp x cs) (hokp : ∀ k, okp k → ok k ∧ some k ≠ v.ownBlock) (hfresh : ∀ k, W.heap.size ≤ k → ok k)
    (HB : Below base w0 W) (hbase : base ≤ W.heap.size) (hl : (xs.length + m) * bytes ≤ 140737488355328)
    (h : ∀ v1 w1, d.R e w1 base ok v1 (copyL xs ys) → Below base w0 w1 → W.grownBy w1 v.ownBlock → (v1.ownBlock = v.ownBlock ∨ ∃ b, v1.ownBlock = some b ∧ W.heap.size ≤ b) → v1 = v → wpList P ops Q rest (a.put o.dst (.int .i64 ((Nat.min m xs.length : Nat) : Int))) w1) :
    wpList P ops Q (o :: rest) a W := by
  obtain ⟨i0, hi, hzz⟩ := Option.map_eq_some_iff.1 hinfo
  simp only [Prod.mk.injEq] at hzz
  obtain ⟨hz0, hz1, hz2⟩ := hzz
  have hsz : (P.info? e).map (·.size) = some d.sz := by rw [hi]; simp [hz1]
  have hm : ys.length = m := HR.1
  obtain ⟨hok, inner, hown, hr⟩ := HO
  have hrun : ∃ w1, (Builtin.copy_ #[t, t] o.type #[v, .slice A m c]).run P W = .ok (goInt ((Nat.min m xs.length : Nat) : Int)) w1 ∧ d.R e w1 base ok v (copyL xs ys) ∧ W.grownBy w1 v.ownBlock := by
    rcases Nat.eq_zero_or_pos (Nat.min m xs.length) with h0 | h0
    · have e0 : copyL xs ys = xs := by
        unfold copyL
        have : m = 0 ∨ xs.length = 0 := by
          have h1 : min m xs.length = 0 := h0
          omega
        rcases this with e1 | e1
        · have : ys = [] := List.eq_nil_of_length_eq_zero (by omega)
          simp [this]
        · have : xs = [] := List.eq_nil_of_length_eq_zero e1
          simp [this]
      obtain ⟨A', c', hv⟩ := own_slice hown
      refine ⟨W, ?_, by rw [e0]; exact ⟨hok, inner, hown, hr⟩, World.grownBy.refl W _⟩
      rw [hv, h0]
      exact run_copy_no W t t o.type e A' A xs.length c' m c ht (by rw [hsz]; rfl) h0
    · have hmin : Nat.min m xs.length = min m xs.length := rfl
      have hmp : 0 < m := by omega
      obtain ⟨ad, rfl, _⟩ := HR.2.2 hmp
      rcases hown.2 with ⟨_, hx0⟩ | ⟨g, cap, cur, hv, hb, hh, hnc, hcm, hcs, htake⟩
      · omega
      obtain ⟨news, hnr, hnc'⟩ := ReadsRow.inner_ HR
      have hnM : Reps (d.M W base okp) d.sz ys news := hnr.imp_ (fun p c hp => hKM p c hp)
      have hone : ∀ u ∈ news, u.oneCell' = true := by
        intro u hu
        obtain ⟨q, hq, rfl⟩ := List.mem_iff_getElem.1 hu
        have hql : q / d.sz < ys.length := by
          rw [Nat.div_lt_iff_lt_mul hs0]
          rw [← hnM.1]
          exact hq
        have hc := hnM.2 (q / d.sz) _ (List.getElem?_eq_getElem hql)
        refine d.K_one (d.K_of_M hc) _ ?_
        rw [List.mem_iff_getElem?]
        refine ⟨q % d.sz, ?_⟩
        rw [List.getElem?_take, if_pos (Nat.mod_lt _ hs0), List.getElem?_drop, Nat.mul_comm, Nat.div_add_mod, List.getElem?_eq_getElem hq]
      have hcs0 : (news.take (xs.length * d.sz)).length = Nat.min m xs.length * d.sz := by
        rw [List.length_take, hnM.1, hm, hmin]
        rcases Nat.le_total xs.length m with hle | hle
        · rw [Nat.min_eq_right hle, Nat.min_eq_left (Nat.mul_le_mul_right _ hle)]
        · rw [Nat.min_eq_left hle, Nat.min_eq_right (Nat.mul_le_mul_right _ hle)]
      have hle1 : Nat.min m xs.length * d.sz ≤ xs.length * d.sz := Nat.mul_le_mul_right _ (Nat.min_le_right _ _)
      have hle2 : xs.length * d.sz ≤ cap * d.sz := Nat.mul_le_mul_right _ hnc
      have hrn := run_copy_rows (P := P) W t t o.type e g xs.length cap ad m c d.sz cur e (news.take (xs.length * d.sz)) ht hsz hh hcs0 (fun j u hu => by
        rw [List.getElem?_take] at hu
        split at hu
        · exact hnc' j u hu
        · cases hu) (by rw [hcs0, hcs]; omega) (fun u hu => hone u (List.mem_of_mem_take hu))
      refine ⟨_, by rw [hv]; exact hrn, ?_, by rw [hv]; exact grownBy_setRow W g _⟩
      have hmove : ∀ {q : α} {c : List Value} {o' : Nat → Prop}, d.M W base o' q c → (∀ k, o' k → ok k ∧ some k ≠ v.ownBlock) → d.M (W.setRow g (news.take (xs.length * d.sz) ++ cur.toList.drop (news.take (xs.length * d.sz)).length).toArray) base (fun k => ok k ∧ some k ≠ v.ownBlock) q c := by
        intro q c o' hq ho'
        have h1 := d.M_move (w1 := W.setRow g (news.take (xs.length * d.sz) ++ cur.toList.drop (news.take (xs.length * d.sz)).length).toArray) (fun k hk => setRow_other W g k _ (fun he => (ho' k hk).2 (by rw [hv, he]; simp [Value.ownBlock]))) hq
        exact d.M_mono ho' h1
      refine ⟨hok, news.take (xs.length * d.sz) ++ inner.drop (news.length), ?_, ?_⟩
      · have hil : inner.length = xs.length * d.sz := hown.1
        refine ⟨?_, .inr ⟨g, cap, _, by rw [hv, copyL_length], hb, setRow_heap W g cur _ e (0, 0) hh, by rw [copyL_length]; exact hnc, hcm, ?_, ?_⟩⟩
        · rw [copyL_length, List.length_append, List.length_take, List.length_drop, hil]
          omega
        · simp only [List.size_toArray, List.length_append, List.length_drop, Array.length_toList]
          rw [hcs0, hcs]
          omega
        · rw [copyL_length]
          simp only []
          rw [List.take_append, List.take_of_length_le (by rw [hcs0]; exact hle1)]
          congr 1
          rw [← htake, List.drop_take, hcs0]
          have hnl : news.length = m * d.sz := by rw [hnM.1, hm]
          rw [hnl]
          rcases Nat.le_total xs.length m with hle | hle
          · have e1 : Nat.min m xs.length = xs.length := Nat.min_eq_right hle
            have e2 : xs.length * d.sz ≤ m * d.sz := Nat.mul_le_mul_right _ hle
            rw [e1, Nat.sub_self, List.take_zero, Nat.sub_eq_zero_of_le e2, List.take_zero]
          · have e1 : Nat.min m xs.length = m := Nat.min_eq_left hle
            rw [e1]
      · have hnl : news.length = ys.length * d.sz := hnM.1
        rw [hnl]
        revert hmove
        generalize W.setRow g (news.take (xs.length * d.sz) ++ cur.toList.drop (news.take (xs.length * d.sz)).length).toArray = W1
        intro hmove
        have r1 := hnM.imp_ (fun _ _ hq => hmove hq hokp)
        have r2 := hr.imp_ (fun _ _ hq => hmove hq (fun _ hk => hk))
        have r3 : Reps (d.M W1 base (fun k => ok k ∧ some k ≠ v.ownBlock)) d.sz (ys.take xs.length) (news.take (xs.length * d.sz)) := by
          rcases Nat.le_total xs.length ys.length with hle | hle
          · exact reps_take r1 hle
          · rw [List.take_of_length_le hle, List.take_of_length_le (by rw [hnl]; exact Nat.mul_le_mul_right _ hle)]
            exact r1
        exact reps_append r3 (reps_drop r2)
  obtain ⟨w1, hr1, h1, hg⟩ := hrun
  refine wpList_plain hgd fun K hK => ?_
  unfold Oper.wp execOp
  simp only [ho, resolve, invoke, builtin, Sem.run_bind, Sem.run_pure, Result.andThen_ok, List.map_toArray, List.map_cons, List.map_nil, hs, hx, hr1]
  exact hK _ _ (h v w1 h1 (HB.grown hg hbase (own_base hown)) hg (.inl rfl) rfl)
end
section
variable {P : Program} {ops : Array Oper} {rest : List Oper} {o : Oper} {a : Act} {Q : Exit → Act → World → Prop} {α : Type}
/-- The base of a slice. -/
def baseOf : Value → Option Addr
  | .slice a _ _ => a
  | _ => none
@[go_sem, simp] theorem baseOf_slice (a : Option Addr) (n c : Nat) : baseOf (.slice a n c) = a := rfl
/-- A local array of whole numbers: its cells, told as a row of the call's own whose block bears the array's type. -/
theorem R_allocarr (k : IntKind) {w0 W : World} (base e : Nat) (hgd : o.guard = none) {N : Tmp} (_hd : o.dst = some N) (ho : o.op = .alloc e) (m : Nat) (hinfo : (P.info? e).map (fun i => (i.zero, i.size)) = some (some (.agg (List.replicate m (.int k 0)).toArray), m)) (hm : m ≤ 281474976710656)
    {ok : Nat → Prop} (hfresh : ok W.heap.size) (HB : Below base w0 W) (hbase : base ≤ W.heap.size)
    (h : ∀ v1 w1, (Kd.int k).R e w1 base ok v1 (List.replicate m 0) → Below base w0 w1 → W.grownBy w1 none → (∃ a, v1 = .slice (some a) m m) → wpList P ops Q rest (a.put o.dst (.pointer (baseOf v1))) w1) : wpList P ops Q (o :: rest) a W := by
  obtain ⟨i0, hi, hzz⟩ := Option.map_eq_some_iff.1 hinfo
  simp only [Prod.mk.injEq] at hzz
  obtain ⟨hz0, hz1⟩ := hzz
  refine wpList_plain hgd fun K hK => ?_
  have hr : (Instr.alloc e true (.tuple #[])).run P W = .ok (.pointer (some ⟨W.heap.size, 0, none⟩)) (W.alloc (.cells (List.replicate m (.int k 0)).toArray e)) := by
    simp [Instr.alloc, zeroValue, typeInfo, hi, hz0, newVar, newRow, Value.cells]
  unfold Oper.wp execOp
  simp only [ho, hr, Sem.run_bind, Sem.run_pure, Result.andThen_ok]
  refine hK _ _ (h (.slice (some ⟨W.heap.size, 0, none⟩) m m) _ ?_ (HB.alloc hbase _) (World.grownBy_alloc W _ none) ⟨_, rfl⟩)
  have h1 := R_made (Kd.int k) base e (W := W) (xs := List.replicate m 0) (inner := List.replicate m (.int k 0)) (okp := ok) (ok := ok) ?_ (fun _ h => h) hfresh hbase (by simp; omega)
  · simpa using h1
  · clear hinfo hi hz0 hz1 hm hr hK h
    induction m with
    | zero => exact Reps.none _ _
    | succ m ih => exact Reps.one rfl ih
/-- By types alone, where the block's cells need not be known. -/
theorem R_types_ex {d : Kd α} {w : World} {base e : Nat} {ok : Nat → Prop} {v : Value} {xs : List α} (h : d.R e w base ok v xs) {g t : Nat} (hb : ∃ cells, w.heap[g]? = some (.cells cells t (0, 0))) (ht : ∀ q, q ∈ e :: d.E → q ≠ t) : d.R e w base (fun k => ok k ∧ k ≠ g) v xs :=
  hb.elim fun _ hb => R_types h hb ht
end
/-- A cell that is set back and set again. -/
theorem set_twice {w : World} {g t : Nat} {u v : Value} {z : Nat × Nat} (h : w.heap[g]? = some (.cells #[v] t z)) : (w.setCell ⟨g, 0, none⟩ u).setCell ⟨g, 0, none⟩ v = w := by
  have hlt : g < w.heap.size := by
    apply Classical.byContradiction
    intro hn
    rw [Array.getElem?_eq_none (by omega)] at h
    cases h
  have hg : w.heap[g] = .cells #[v] t z := by
    rw [Array.getElem?_eq_getElem hlt] at h
    exact Option.some.inj h
  unfold World.setCell
  have e : ∀ h1 : Array Obj, h1 = w.heap → ({ w with heap := h1 } : World) = w := fun h1 e1 => by
    subst e1
    rfl
  apply e
  apply Array.ext
  · simp
  · intro i h1 h2
    by_cases c : g = i
    · subst c
      simp [Array.getElem_modify, hg]
    · simp [Array.getElem_modify, c]
/-- A call of a function value that is known, as an arm of go_wp2_with. -/
theorem goesC_ {P : Program} {ops : Array Oper} {Q : Exit → Act → World → Prop} {rest : List Oper} {oi : Oper} {a : Act} {w : World} (N : Option Tmp) (hd : oi.dst = N) (hg : oi.guard = none) {f : FuncId} {fn : Func} {t : Nat} {as : Array Operand} {ts : Array TypeId} (hf : P.funcs[f]? = some fn) (hname : (fn.name == "runtime.NumGoroutine") = false) (hb : fn.body.isSome = true) {cap : Array Value} (args : Array Value)
    (hop : oi.op = .call { callee := .value (.tmp t), args := as, argTypes := ts }) (hv : a.eval (.tmp t) = .func (.func f) #[] cap) (hargs : as.map a.eval = args)
    (h : Calls P f (args ++ cap) w fun e w' => ∃ v, e = .returned v ∧ wpList P ops Q rest (a.put N v) w') : wpList P ops Q (oi :: rest) a w := by
  refine wpList_plain hg fun K hK => ?_
  have he := PrintLast.enters_ hf hname hb (args ++ cap) w
  have hrun : (execOp a.eval oi).run P w = .ok (.enter f (args ++ cap)) w := by
    unfold execOp
    simp [hop, resolve, hv, Deferred.ofValue, invoke, hargs, he]
  unfold Oper.wp
  rw [hrun, Oper.upon_enter]
  refine h.mono fun e w'' hh => ?_
  obtain ⟨v, rfl, hk⟩ := hh
  subst hd
  exact hK _ _ hk
theorem emp_eq (l : List UInt8) : (l == []) = l.isEmpty := by cases l <;> rfl
theorem emp_ne (l : List UInt8) : (l != []) = !l.isEmpty := by cases l <;> rfl
theorem u8w (x : Int) : IntKind.u8.wrap x = x % 256 := rfl
theorem tmodn (n : Nat) (k : Int) : ((n : Int)).tmod k = (n : Int) % k := Int.tmod_eq_emod_of_nonneg (Int.natCast_nonneg n)
/-- A scope from which no goto leads, over what no goto answers. -/
theorem wp_scope_body {P : Program} {Q : Exit → Act → World → Prop} {a : Act} {w : World} {c : Code} (hq : ∀ l a w, ¬ Q (.goto l) a w) (h : c.wp P Q a w) : (Code.scope c).wp P Q a w :=
  wp_scope_straight fun b k cs => by
    obtain ⟨e, a1, w1, h1, h2⟩ := h b k cs
    refine ⟨e, a1, w1, ?_, h2⟩
    cases e with
    | goto l => exact (hq l a1 w1 h1).elim
    | _ => exact h1
end Kd
end Go.Proofs.YtdbpablakhfdcaaW.PrintWords
