/- What an argument that can be read as data says in the print's own kinds: whole numbers, bools, strings, slices, structs and what is put together of them. -/
import Derived.Deep.Slices
import Derived.SizedLaws
import Derived.ChangeArms
import Derived.WideShapes
import Derived.ChangeShapes
import Derived.KernelRfl
import Derived.Test.YtdbpablakhfdcaaWWords
namespace Go.Proofs.Ytdbpablakhfdcaa
open Go.RowKit Go.Proofs.YtdbpablakhfdcaaW.PrintWords Go.WideShapes Go.Deep Go.ChangeShapes
set_option linter.unusedVariables false

/-- A type's cells, read as data of no more than the reach, are a value of the kind. -/
def Opens {α : Type} (P : Program) (t : TypeId) (d : Kd α) (g : α → Prop) : Prop :=
  ∀ (H : Type) (enc : TypeId × Value → H) (w : World) (base : Nat) (spare : Nat → Bool) (held : Bool) (fuel : Nat) (cs : List Value) (x : DataW H × List MemPlace),
    DataW.trod enc P w base spare held fuel t cs = some x → (∀ n ∈ x.1.weights P t, n ≤ reachBytes) → ∃ v : α, d.K w v cs ∧ g v

theorem opens_int {P : Program} {t : TypeId} {k : IntKind} (ht : P.underlying t = some (.int k)) : Opens P t (Kd.int k) (fun n => (Lit.int k n).wf = true) := by
  intro H enc w base spare held fuel cs x h hw
  obtain ⟨n, rfl, rfl, hn⟩ := DataW.trod_int ht h
  exact ⟨n, rfl, hn⟩
theorem opens_bool {P : Program} {t : TypeId} (ht : P.underlying t = some .bool) : Opens P t Kd.bool (fun _ => True) := by
  intro H enc w base spare held fuel cs x h hw
  obtain ⟨b, rfl, rfl⟩ := DataW.trod_bool ht h
  exact ⟨b, rfl, trivial⟩
theorem opens_string {P : Program} {t : TypeId} (ht : P.underlying t = some .string) : Opens P t Kd.string (fun s => s.size ≤ 140737488351232) := by
  intro H enc w base spare held fuel cs x h hw
  obtain ⟨s, rfl, rfl, hs⟩ := DataW.trod_string ht h
  refine ⟨s, rfl, ?_⟩
  have := hw s.data.toList.length (by simp [DataW.weights])
  rw [Array.length_toList] at this
  exact this
theorem opens_iso {α β : Type} {P : Program} {t : TypeId} {d : Kd α} {g : α → Prop} (h : Opens P t d g) (f : β → α) (f' : α → β) (hf : ∀ a, f (f' a) = a) : Opens P t (Kd.iso d f) (fun b => g (f b)) := by
  intro H enc w base spare held fuel cs x hx hw
  obtain ⟨v, hk, hg⟩ := h H enc w base spare held fuel cs x hx hw
  refine ⟨f' v, ?_, ?_⟩
  · show d.K w (f (f' v)) cs
    rw [hf]
    exact hk
  · show g (f (f' v))
    rw [hf]
    exact hg
theorem opens_imp {α : Type} {P : Program} {t : TypeId} {d : Kd α} {g g' : α → Prop} (h : Opens P t d g) (hg : ∀ v, g v → g' v) : Opens P t d g' := by
  intro H enc w base spare held fuel cs x hx hw
  obtain ⟨v, hk, hv⟩ := h H enc w base spare held fuel cs x hx hw
  exact ⟨v, hk, hg v hv⟩

theorem weightsAll_mem {H : Type} {P : Program} {e : TypeId} : ∀ {ds : List (DataW H)} {d : DataW H}, d ∈ ds → ∀ n ∈ d.weights P e, n ∈ DataW.weightsAll P e ds
  | d0 :: ds, d, hd, n, hn => by
    simp only [DataW.weightsAll, List.mem_append]
    rcases List.mem_cons.1 hd with rfl | hd
    · exact .inl hn
    · exact .inr (weightsAll_mem hd n hn)
  | [], _, hd, _, _ => by simp at hd

theorem opens_slice {α : Type} {P : Program} {t e : TypeId} {d : Kd α} {g : α → Prop} (ht : P.underlying t = some (.slice e)) (he : Opens P e d g) (hc : P.cellsOf e = d.sz) {B : Nat} (hB : P.bytesOf e = B) :
    Opens P t (Kd.slice e d) (fun xs => xs.length ≤ maxLen ∧ xs.length * B ≤ 140737488351232 ∧ ∀ x ∈ xs, g x) := by
  intro H enc w base spare held fuel cs x h hw
  rcases open_slice ht h with ⟨rfl, rfl⟩ | ⟨a, len, cap, m, n, D, Pl, rfl, hb, hl, hm, hmm, rfl, hi⟩
  · refine ⟨[], ⟨none, 0, rfl, Nat.le_refl _, rfl, Nat.zero_le _, fun h => absurd h (Nat.lt_irrefl 0)⟩, ?_, ?_, ?_⟩
    · simp
    · simp
    · simp
  · have hlm : len ≤ m := by rw [hmm]; split <;> omega
    have hwt : ∀ i, i < len → ∀ q ∈ (D i).weights P e, q ≤ reachBytes := by
      intro i hlt q hq
      refine hw q ?_
      simp only [DataW.weights, ht, List.mem_cons, List.mem_append]
      exact .inr (.inl (weightsAll_mem (List.mem_map.2 ⟨i, List.mem_range.2 hlt, rfl⟩) q hq))
    have hex : ∀ i, i < len → ∃ (v : α) (c : List Value), d.K w v c ∧ g v ∧ c.length = d.sz ∧ ∀ j u, c[j]? = some u → w.cell? (a.add (i * d.sz + j)) = some u := by
      intro i hlt
      obtain ⟨cs', hcs, htr⟩ := hi i (by omega)
      obtain ⟨v, hk, hg⟩ := he H enc w base spare held n cs' _ htr (hwt i hlt)
      obtain ⟨_, hcl, hcell⟩ := World.cells?_some hcs
      refine ⟨v, cs', hk, hg, by rw [hcl, hc], fun j u hju => ?_⟩
      have hj : j < cs'.length := (List.getElem?_eq_some_iff.1 hju).1
      have := hcell j (by omega)
      rw [← hc, ← Go.Deep.add_add, this]
      exact hju
    obtain ⟨f, hf⟩ : ∃ f : Nat → Option α, ∀ i, i < len → ∃ v, f i = some v ∧ ∃ c, d.K w v c ∧ g v ∧ c.length = d.sz ∧ ∀ j u, c[j]? = some u → w.cell? (a.add (i * d.sz + j)) = some u := by
      refine ⟨fun i => if h : i < len then some (Classical.choose (hex i h)) else none, fun i h => ?_⟩
      exact ⟨Classical.choose (hex i h), by simp only [h, dif_pos], Classical.choose_spec (hex i h)⟩
    have hxs : ∀ k, k ≤ len → ∃ xs : List α, xs.length = k ∧ ∀ i p, xs[i]? = some p → f i = some p := by
      intro k
      induction k with
      | zero => exact fun _ => ⟨[], rfl, fun i p h => by simp at h⟩
      | succ k ih =>
        intro hk
        obtain ⟨xs, hl1, h1⟩ := ih (by omega)
        obtain ⟨v, hv, _⟩ := hf k (by omega)
        refine ⟨xs ++ [v], by simp [hl1], fun i p h => ?_⟩
        by_cases hlt : i < xs.length
        · rw [List.getElem?_append_left hlt] at h
          exact h1 i p h
        · rw [List.getElem?_append_right (by omega)] at h
          have : i = k := by
            have := (List.getElem?_eq_some_iff.1 h).1
            simp at this
            omega
          subst this
          rw [hl1] at h
          simp at h
          rw [hv, h]
    obtain ⟨xs, hxl, hx⟩ := hxs len (Nat.le_refl _)
    have hall : ∀ i p, xs[i]? = some p → ∃ c, d.K w p c ∧ g p ∧ c.length = d.sz ∧ ∀ j u, c[j]? = some u → w.cell? (a.add (i * d.sz + j)) = some u := by
      intro i p hp
      have hlt : i < len := by
        have := (List.getElem?_eq_some_iff.1 hp).1
        omega
      obtain ⟨v, hv, hc⟩ := hf i hlt
      have := hx i p hp
      rw [hv] at this
      obtain rfl := Option.some.inj this
      exact hc
    refine ⟨xs, ⟨some a, cap, by rw [hxl], by omega, rfl, by unfold maxLen at hm; omega, fun hpos => ⟨a, rfl, fun j p hp => ?_⟩⟩, ?_, ?_, ?_⟩
    · obtain ⟨c, hk, _, hcl, hcell⟩ := hall j p hp
      exact ⟨c, hcl, hk, hcell⟩
    · omega
    · have h1 := hw ((((List.range len).map D).length + ((List.range (m - len)).map fun j => D (len + j)).length) * P.bytesOf e) (by simp only [DataW.weights, ht, List.mem_cons, true_or])
      simp only [List.length_map, List.length_range] at h1
      rw [hB] at h1
      rw [hxl]
      refine Nat.le_trans (Nat.mul_le_mul_right B (by omega : len ≤ len + (m - len))) ?_
      exact h1
    · intro p hp
      obtain ⟨i, hi1, rfl⟩ := List.mem_iff_getElem.1 hp
      obtain ⟨c, _, hg, _⟩ := hall i xs[i] (List.getElem?_eq_getElem hi1)
      exact hg

/-- Fields in line, from the offset off on. -/
def OpensL {α : Type} (P : Program) (fs : List Field) (off : Nat) (d : Kd α) (g : α → Prop) : Prop :=
  ∀ (H : Type) (enc : TypeId × Value → H) (w : World) (base : Nat) (spare : Nat → Bool) (held : Bool) (fuel : Nat) (cs : List Value) (xs : List (DataW H × List MemPlace)),
    cs.length = d.sz → xs.length = fs.length →
    (∀ (i : Nat) (f : Field), fs[i]? = some f → DataW.trod enc P w base spare held fuel f.type ((cs.drop (f.offset - off)).take (P.cellsOf f.type)) = xs[i]?) →
    (∀ m ∈ DataW.weightsEach P (fs.map (·.type)) (xs.map (·.1)), m ≤ reachBytes) → ∃ v : α, d.K w v cs ∧ g v

theorem opensL_one {α : Type} {P : Program} {f : Field} {off : Nat} {d : Kd α} {g : α → Prop} (h : Opens P f.type d g) (ho : f.offset = off) (hc : P.cellsOf f.type = d.sz) : OpensL P [f] off d g := by
  intro H enc w base spare held fuel cs xs hcs hxs hf hw
  match xs, hxs with
  | [x], _ =>
    have h0 := hf 0 f rfl
    rw [ho, Nat.sub_self, List.drop_zero, hc, ← hcs, List.take_length] at h0
    exact h H enc w base spare held fuel cs x h0 (fun n hn => hw n (by simp [DataW.weightsEach]; exact hn))
theorem opensL_cons {α β : Type} {P : Program} {f : Field} {fs : List Field} {off : Nat} {d : Kd α} {d' : Kd β} {g : α → Prop} {g' : β → Prop} (h : Opens P f.type d g) (ho : f.offset = off) (hc : P.cellsOf f.type = d.sz)
    (h' : OpensL P fs (off + d.sz) d' g') (hge : ∀ q ∈ fs, off + d.sz ≤ q.offset) : OpensL P (f :: fs) off (Kd.pair d d') (fun v => g v.1 ∧ g' v.2) := by
  intro H enc w base spare held fuel cs xs hcs hxs hf hw
  match xs, hxs with
  | x :: xs, hxs =>
    have hcs' : cs.length = d.sz + d'.sz := hcs
    have h0 := hf 0 f rfl
    rw [ho, Nat.sub_self, List.drop_zero, hc] at h0
    obtain ⟨v, hk, hg⟩ := h H enc w base spare held fuel _ x h0 (fun n hn => hw n (by simp only [List.map_cons, DataW.weightsEach, List.mem_append]; exact .inl hn))
    obtain ⟨v', hk', hg'⟩ := h' H enc w base spare held fuel (cs.drop d.sz) xs (by rw [List.length_drop]; omega) (by simpa using hxs) (fun i q hq => by
      have h1 := hf (i + 1) q (by simpa using hq)
      have hle := hge q (List.mem_of_getElem? hq)
      rw [List.drop_drop]
      have : d.sz + (q.offset - (off + d.sz)) = q.offset - off := by omega
      rw [this]
      simpa using h1) (fun n hn => hw n (by simp only [List.map_cons, DataW.weightsEach, List.mem_append]; exact .inr hn))
    exact ⟨(v, v'), ⟨cs.take d.sz, cs.drop d.sz, (List.take_append_drop _ _).symm, hk, hk'⟩, hg, hg'⟩
theorem opens_struct {α : Type} {P : Program} {t : TypeId} {fs : Array Field} {d : Kd α} {g : α → Prop} (ht : P.underlying t = some (.struct fs)) (h : OpensL P fs.toList 0 d g) (hc : P.cellsOf t = d.sz) : Opens P t d g := by
  intro H enc w base spare held fuel cs x hx hw
  obtain ⟨xs, n, rfl, rfl, hcl, hxl, hf⟩ := DataW.trod_struct ht hx
  refine h H enc w base spare held n cs xs (by rw [hcl, hc]) (by simpa using hxl) (fun i f hi => ?_) (fun m hm => hw m ?_)
  · rw [Nat.sub_zero]
    exact hf i f (by simpa using hi)
  · simp only [DataW.weights, ht]
    exact hm

/-- An argument, of a row whose weights are in the reach. -/
theorem opens_arg {α : Type} {P : Program} {t : TypeId} {d : Kd α} {g : α → Prop} (h : Opens P t d g) {H : Type} {enc : TypeId × Value → H} {w : World} {base : Nat} {spare : Nat → Bool} {held : Bool} {v : Value} {x : DataW H} {ps : List MemPlace}
    {ts : List TypeId} {ds : List (DataW H)} {j : Nat} (hsz : (DataW.weightsEach P ts ds).all (· ≤ reachBytes) = true) (ht : ts[j]? = some t) (hd : ds[j]? = some x) (hx : DataW.Trod enc P w base spare held t v x ps) :
    ∃ a : α, d.K w a v.cells.toList ∧ g a := by
  obtain ⟨fuel, hf⟩ := hx
  refine h H enc w base spare held fuel _ _ hf (fun n hn => ?_)
  have := List.all_eq_true.1 hsz n (DataW.weights_mem_each ht hd n hn)
  simpa using this
theorem lt_arg {H : Type} {enc : TypeId × Value → H} {P : Program} {w : World} {base : Nat} {spare : Nat → Bool} {held : Bool} {t : TypeId} {v : Value} {x : DataW H} {ps : List MemPlace} (hx : DataW.Trod enc P w base spare held t v x ps) : ∀ y ∈ ps, y.block < w.heap.size := by
  obtain ⟨m, hm⟩ := hx
  exact DataW.trod_lt m _ _ _ hm
/-- A short array of whole numbers, as data, is a pair (or three) of them. -/
theorem opens_arr {α : Type} {P : Program} {t e : TypeId} {q : IntKind} {n : Nat} {d : Kd α} {g : α → Prop} (ht : P.underlying t = some (.array n e)) (he : P.underlying e = some (.int q)) (h1 : P.cellsOf e = 1) (hc : P.cellsOf t = n)
    (hd : ∀ (w : World) (l : List Int), l.length = n → (∀ i ∈ l, (Lit.int q i).wf = true) → ∃ v, d.K w v (l.map (Value.int q)) ∧ g v) : Opens P t d g := by
  intro H enc w base spare held fuel cs x h hw
  cases fuel with
  | zero => simp [DataW.trod] at h
  | succ m =>
    rw [DataW.trod_step] at h
    unfold DataW.trodStep at h
    simp only [ht] at h
    by_cases hl : cs.length = P.cellsOf t
    · rw [if_pos hl] at h
      simp only [Option.map_eq_some_iff] at h
      obtain ⟨ys, hy, _⟩ := h
      have key : ∀ (L : List Nat) (ys : List (DataW H × List MemPlace)), (L.mapM fun i => DataW.trod enc P w base spare held m e ((cs.drop (i * P.cellsOf e)).take (P.cellsOf e))) = some ys →
          ∃ l : List Int, l.length = L.length ∧ (∀ i ∈ l, (Lit.int q i).wf = true) ∧ ∀ j i, L[j]? = some i → (cs.drop i).take 1 = [Value.int q (l.getD j 0)] := by
        intro L
        induction L with
        | nil => exact fun ys h => ⟨[], rfl, fun i hi => by simp at hi, fun j i hj => by simp at hj⟩
        | cons i L ih =>
          intro ys h
          rw [List.mapM_cons] at h
          simp only [bind, Option.bind_eq_some_iff, pure, Option.some.injEq] at h
          obtain ⟨y, hy, zs, hzs, rfl⟩ := h
          obtain ⟨l, hl, hwf, hj⟩ := ih zs hzs
          obtain ⟨a, ea, _, wa⟩ := DataW.trod_int he hy
          rw [h1, Nat.mul_one] at ea
          refine ⟨a :: l, by simp [hl], fun i hi => ?_, fun j i' hji => ?_⟩
          · rcases List.mem_cons.1 hi with rfl | hi
            · exact wa
            · exact hwf i hi
          · cases j with
            | zero => simp at hji; subst hji; exact ea
            | succ j => simpa using hj j i' (by simpa using hji)
      obtain ⟨l, hll, hwf, hj⟩ := key _ _ hy
      rw [List.length_range] at hll
      have hcs : cs = l.map (Value.int q) := by
        apply List.ext_getElem?
        intro j
        by_cases hjn : j < n
        · have h2 := hj j j (by simp [hjn])
          have h3 : ((cs.drop j).take 1)[0]? = some (Value.int q (l.getD j 0)) := by rw [h2]; rfl
          rw [List.getElem?_take_of_lt (by omega), List.getElem?_drop, Nat.add_zero] at h3
          rw [h3, List.getElem?_map, List.getElem?_eq_getElem (by omega)]
          simp [List.getD_eq_getElem?_getD, List.getElem?_eq_getElem (show j < l.length by omega)]
        · rw [List.getElem?_eq_none (by omega), List.getElem?_eq_none (by simp; omega)]
      obtain ⟨v, hv, hg⟩ := hd w l hll hwf
      exact ⟨v, by rw [hcs]; exact hv, hg⟩
    · rw [if_neg hl] at h
      cases h
theorem opens_arr2 {P : Program} {t e : TypeId} {q : IntKind} (ht : P.underlying t = some (.array 2 e)) (he : P.underlying e = some (.int q)) (h1 : P.cellsOf e = 1) (hc : P.cellsOf t = 2) :
    Opens P t (Kd.pair (Kd.int q) (Kd.int q)) (fun v => (Lit.int q v.1).wf = true ∧ (Lit.int q v.2).wf = true) :=
  opens_arr ht he h1 hc fun w l hl hw => by
    match l, hl with
    | [a, b], _ => exact ⟨(a, b), ⟨[.int q a], [.int q b], rfl, rfl, rfl⟩, hw a (by simp), hw b (by simp)⟩
theorem opens_arr3 {P : Program} {t e : TypeId} {q : IntKind} (ht : P.underlying t = some (.array 3 e)) (he : P.underlying e = some (.int q)) (h1 : P.cellsOf e = 1) (hc : P.cellsOf t = 3) :
    Opens P t (Kd.pair (Kd.int q) (Kd.pair (Kd.int q) (Kd.int q))) (fun v => (Lit.int q v.1).wf = true ∧ (Lit.int q v.2.1).wf = true ∧ (Lit.int q v.2.2).wf = true) :=
  opens_arr ht he h1 hc fun w l hl hw => by
    match l, hl with
    | [a, b, c], _ => exact ⟨(a, b, c), ⟨[.int q a], [.int q b, .int q c], rfl, rfl, [.int q b], [.int q c], rfl, rfl, rfl⟩, hw a (by simp), hw b (by simp), hw c (by simp)⟩
theorem okWide_array {P : Program} {t e : TypeId} {n : Nat} (ht : P.underlying t = some (.array n e)) {W : World} {r : Reach} {b0 : Nat} {v : Value} (h : Value.okWide P W r b0 t v) : ∃ xs : Array Value, v = .agg xs ∧ xs.size = P.cellsOf t := by
  simp only [Value.okWide, ht] at h
  obtain ⟨cs, h1, h2, _⟩ := h
  exact ⟨cs, h1, h2⟩
end Go.Proofs.Ytdbpablakhfdcaa
