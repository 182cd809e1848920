/- For each Go function that the seat's laws reach: a Lean function with the same answers, and the proof that the Go code comes to them. Made by a program of this session over the translation; no condition beside those that each theorem bears. -/
import Derived.Test.YtdbbmjfiglcfhaaQx0
namespace Go.Proofs.Ytdbbmjfiglcfhaa.Q
open Go.RowKit Go.Proofs.YtdbbmjfiglcfhaaW.PrintWords Go.Proofs.YtdbbmjfiglcfhaaW.PrintLast Go.Proofs.YtdbbmjfiglcfhaaW.PrintMore
attribute [local go_sem] max2_int min2_int max_two min_two max_three min_three max_four min_four   -- for this text's walks alone
set_option linter.unusedVariables false
set_option linter.unusedSimpArgs false

/-! ### measure_behind: function 44 -/
def measure_behind.nx (l : List Int) (t : Int) (k : Nat) : Nat := k + ((l.drop k).takeWhile (fun x => decide (x ≤ t))).length
theorem measure_behind.nx_step {l : List Int} {t : Int} {k : Nat} (h : k < l.length) (hle : rd l (k : Int) ≤ t) : measure_behind.nx l t k = measure_behind.nx l t (k + 1) := by
 unfold measure_behind.nx
 have e : l.drop k = l[k] :: l.drop (k + 1) := List.drop_eq_getElem_cons h
 have e2 : rd l (k : Int) = l[k] := by simp [rd, List.getD, List.getElem?_eq_getElem h]
 rw [e2] at hle
 rw [e, List.takeWhile_cons_of_pos (by simpa using hle), List.length_cons]
 omega
theorem measure_behind.nx_stop {l : List Int} {t : Int} {k : Nat} (h : k < l.length) (hle : ¬ rd l (k : Int) ≤ t) : measure_behind.nx l t k = k := by
 unfold measure_behind.nx
 have e : l.drop k = l[k] :: l.drop (k + 1) := List.drop_eq_getElem_cons h
 have e2 : rd l (k : Int) = l[k] := by simp [rd, List.getD, List.getElem?_eq_getElem h]
 rw [e2] at hle
 rw [e, List.takeWhile_cons_of_neg (by simpa using hle)]
 rfl
theorem measure_behind.nx_end {l : List Int} {t : Int} {k : Nat} (h : ¬ k < l.length) : measure_behind.nx l t k = k := by
 unfold measure_behind.nx
 rw [List.drop_eq_nil_of_le (by omega)]
 rfl
theorem measure_behind.nx_le {l : List Int} {t : Int} {k : Nat} (h : k ≤ l.length) : measure_behind.nx l t k ≤ l.length := by
 unfold measure_behind.nx
 have h1 := (List.takeWhile_sublist (fun x => decide (x ≤ t)) (l := l.drop k)).length_le
 rw [List.length_drop] at h1
 omega
set_option maxHeartbeats 8000000 in
set_option maxRecDepth 100000 in
theorem measure_behind.next (gk gl : Nat) (A0 : Option Addr) (c0 : Nat) (l : List Int) (t : Int) (x : Nat) (w0 w : World) (hB : Below w0.heap.size w0 w) (hC : Kd.C (Kd.int .i64) w0 A0 l.length l)
  (hgk : w.heap[gk]? = some (.cells #[.int .i64 (x : Int)] 3 (0, 0))) (hgl : w.heap[gl]? = some (.cells #[.slice A0 l.length c0] 44 (0, 0))) (h0 : w0.heap.size ≤ gk) (h1 : w0.heap.size ≤ gl) (hx : x ≤ l.length) (hl : l.length ≤ 140737488351232) :
  Calls Try.prog 56 #[.int .i64 t, .pointer (some ⟨gk, 0, none⟩), .pointer (some ⟨gl, 0, none⟩)] w fun e w' => e = .returned (.tuple #[.int .i64 (rd l (measure_behind.nx l t x : Int)), .bool (decide (measure_behind.nx l t x < l.length))]) ∧ Below w0.heap.size w0 w' ∧ Kept w w' (fun i => i = gk) ∧ w'.heap[gk]? = some (.cells #[.int .i64 ((measure_behind.nx l t x : Nat) : Int)] 3 (0, 0)) := by
 have HB := Aside0.mk hB
 have HC := Aside0.mk hC
 have HK := Aside0.mk hgk
 have HL := Aside0.mk hgl
 have H0 := Aside0.mk h0
 have H1 := Aside0.mk h1
 clear hB hC hgk hgl h0 h1
 go_enter Try.func56, Try.ntmps56
 go_wp2
 go_loopg [] (l.length - x) (fun kq w' => ∃ (y : Nat), y ≤ l.length ∧ kq = l.length - y ∧ Aside0 (measure_behind.nx l t y = measure_behind.nx l t x) ∧ Aside0 (Below w0.heap.size w0 w') ∧ Aside0 (Kept w w' (fun i => i = gk)) ∧ Aside0 (w'.heap[gk]? = some (.cells #[.int .i64 (y : Int)] 3 (0, 0))) ∧ Aside0 (w'.heap[gl]? = some (.cells #[.slice A0 l.length c0] 44 (0, 0))))
 case atStart => exact ⟨x, hx, rfl, ⟨rfl⟩, ⟨HB.out⟩, ⟨Kept.refl w _⟩, ⟨HK.out⟩, ⟨HL.out⟩⟩
 case round =>
  obtain ⟨y, hy, rfl, HN, HB2, HKe, HK2, HL2⟩ := hrel
  have hck : wr.cell? ⟨gk, 0, none⟩ = some (.int .i64 (y : Int)) := (blk_cell HK2.out 0).trans rfl
  have hcl : wr.cell? ⟨gl, 0, none⟩ = some (.slice A0 l.length c0) := (blk_cell HL2.out 0).trans rfl
  have hfk := blk_frozen HK2.out 0
  have hfl := blk_frozen HL2.out 0
  by_cases hlt : y < l.length
  ·have hd1 : decide ((y : Int) < (l.length : Int)) = true := decide_eq_true (by omega)
   have hd2 : decide (y < l.length) = true := decide_eq_true (by omega)
   obtain ⟨ad, ead, hxe⟩ := Kd.at_int (Kd.C_below HC.out HB2.out) (y : Int) (Int.natCast_nonneg y) (by omega)
   cases ead
   rw [Int.toNat_natCast] at hxe
   have p1 : 0 ≤ (y : Int) := Int.natCast_nonneg y
   have q1 : (y : Int) < (l.length : Int) := by omega
   replace p1 := eq_true p1
   replace q1 := eq_true q1
   by_cases hle : rd l (y : Int) ≤ t
   ·have hd3 : decide (rd l (y : Int) ≤ t) = true := decide_eq_true hle
    go_wp2
    go_roundg (l.length - (y + 1))
    case measure => omega
    case rel =>
     refine ⟨y + 1, by omega, rfl, ⟨(measure_behind.nx_step hlt hle).symm.trans HN.out⟩, ⟨below_set HB2.out H0.out⟩, ⟨HKe.out.setCell (.inl rfl) _⟩, ⟨?_⟩, ⟨blk_far HL2.out (fun e => ?_) _⟩⟩
     ·have h := blk_put HK2.out 0 (.int .i64 ((y : Int) + 1)) rfl
      simpa using h
     ·have e' : gl = gk := e
      subst e'
      have := HK2.out.symm.trans HL2.out
      simp at this
   ·have hd3 : decide (rd l (y : Int) ≤ t) = false := decide_eq_false hle
    have hq : ((y : Int) == (l.length : Int)) = false := beq_eq_false_iff_ne.mpr (by omega)
    have hn : measure_behind.nx l t x = y := HN.out.symm.trans (measure_behind.nx_stop hlt hle)
    have HY := Aside0.mk hn
    clear hn
    go_wp2
    go_ret2
    rw [HY.out]
    exact ⟨by simp [hd2], HB2.out, HKe.out, HK2.out⟩
  ·have hd1 : decide ((y : Int) < (l.length : Int)) = false := decide_eq_false (by omega)
   have hd2 : decide (y < l.length) = false := decide_eq_false (by omega)
   have hq : ((y : Int) == (l.length : Int)) = true := beq_iff_eq.mpr (by omega)
   have hn : measure_behind.nx l t x = y := HN.out.symm.trans (measure_behind.nx_end hlt)
   have hz : rd l (y : Int) = 0 := by simp [rd, List.getD, List.getElem?_eq_none (show l.length ≤ y by omega)]
   have HY := Aside0.mk hn
   have HZ := Aside0.mk hz
   clear hn hz
   go_wp2
   go_ret2
   rw [HY.out]
   exact ⟨by simp [hd2, HZ.out], HB2.out, HKe.out, HK2.out⟩
set_option maxHeartbeats 8000000 in
set_option maxRecDepth 100000 in
theorem measure_behind.made (A0 : Option Addr) (c0 n : Nat) (w : World) :
  Calls Try.prog 55 #[.slice A0 n c0] w fun e w' => ∃ gk gl : Nat, e = .returned (.func (.func 56) #[] #[.pointer (some ⟨gk, 0, none⟩), .pointer (some ⟨gl, 0, none⟩)]) ∧ w.heap.size ≤ gk ∧ w.heap.size ≤ gl ∧ w'.heap[gk]? = some (.cells #[.int .i64 0] 3 (0, 0)) ∧ w'.heap[gl]? = some (.cells #[.slice A0 n c0] 44 (0, 0)) ∧ Below w.heap.size w w' := by
 have hmf : ∀ (fn : Fn) (first cap : Array Value) (w : World), (Instr.makeFunc fn first cap).run Try.prog w = .ok (.func fn first cap) w := fun _ _ _ _ => rfl
 go_enter Try.func55, Try.ntmps55
 go_wp2
 go_ret
 exact ⟨w.heap.size + 1, w.heap.size, rfl, by omega, by omega, by have h := blk_new (w.alloc (.cells #[.slice A0 n c0] 44)) (.cells #[.int .i64 0] 3 (0, 0)); simpa using h, blk_alloc (blk_new w _) _, below_alloc (below_alloc (Below.refl _ _) _) _⟩
def measure_behind.l (l : List Int) : Nat → List Int → List S36
 | _, [] => []
 | k, t :: es => if measure_behind.nx l t k < l.length then ⟨t, wrap64 (rd l (measure_behind.nx l t k : Int) - t)⟩ :: measure_behind.l l (measure_behind.nx l t k) es else measure_behind.l l (measure_behind.nx l t k) es
def measure_behind.f (l0 l1 : List Int) : Option (List S36) := if l0.length ≤ 140737488351232 then (if l1.length < 4398046511104 then some (measure_behind.l l0 0 l1) else none) else none
theorem measure_behind.l_cons (l : List Int) (k : Nat) (t : Int) (es : List Int) : measure_behind.l l k (t :: es) = if measure_behind.nx l t k < l.length then ⟨t, wrap64 (rd l (measure_behind.nx l t k : Int) - t)⟩ :: measure_behind.l l (measure_behind.nx l t k) es else measure_behind.l l (measure_behind.nx l t k) es := rfl
theorem measure_behind.l_len (l : List Int) : ∀ (es : List Int) (k : Nat), (measure_behind.l l k es).length ≤ es.length
 | [], _ => Nat.le_refl _
 | t :: es, k => by
  have := measure_behind.l_len l es (measure_behind.nx l t k)
  rw [measure_behind.l_cons]
  split <;> simp <;> omega
set_option maxHeartbeats 8000000 in
set_option maxRecDepth 100000 in
theorem measure_behind.calls (A0 : Option Addr) (c0 : Nat) (l0 : List Int) (A1 : Option Addr) (c1 : Nat) (l1 : List Int) (r : List S36) (w : World) (hr0 : Kd.C (Kd.int .i64) w A0 l0.length l0) (hc0 : l0.length ≤ c0) (hr1 : Kd.C (Kd.int .i64) w A1 l1.length l1) (hc1 : l1.length ≤ c1) (h : measure_behind.f l0 l1 = some r) :
  Calls Try.prog 44 #[.slice A0 l0.length c0, .slice A1 l1.length c1] w fun e w' => ∃ v0_ : Value, e = .returned v0_ ∧ Kd.R k36 36 w' w.heap.size (fun _ => True) v0_ r ∧ Below w.heap.size w w' := by
 unfold measure_behind.f at h
 by_cases hl0 : l0.length ≤ 140737488351232
 ·rw [if_pos hl0] at h
  by_cases hl1 : l1.length < 4398046511104
  ·rw [if_pos hl1] at h
   have HR := Aside0.mk (Option.some.inj h)
   clear h
   have hu36 := Try.underlying36
   have HR0 := Aside0.mk hr0
   have HR1 := Aside0.mk hr1
   clear hr0 hr1 hc0 hc1
   go_enter Try.func44, Try.ntmps44
   go_wp2_with ((with_reducible refine gate_callee (f := 55) rfl ?_); refine goesL_ (some 12) rfl rfl Try.func55 (by kernel_rfl) rfl #[.slice A0 l0.length c0] rfl (by (try simp only [List.map_toArray, List.map_cons, List.map_nil]); first | done | rfl) ?_; (with_reducible refine (measure_behind.made A0 c0 l0.length _).mono ?_); rintro e w1 ⟨gk, gl, rfl, hgk, hgl, hk, hl, hb⟩; refine ⟨_, rfl, ?_⟩; have GK := Aside0.mk hgk; have GL := Aside0.mk hgl; have BK := Aside0.mk hk; have BL := Aside0.mk hl; have HB := Aside0.mk hb; clear hgk hgl hk hl hb)
   go_loopg [5, 15] l1.length (fun kq v5 v15 w' => ∃ (out : List S36) (i k : Nat), kq = l1.length - i ∧ i ≤ l1.length ∧ k ≤ l0.length ∧ v15 = .int .i64 (i : Int) ∧ Aside0 (out ++ measure_behind.l l0 k (l1.drop i) = r) ∧ Aside0 (Kd.R k36 36 w' w.heap.size (fun _ => True) v5 out) ∧ Aside0 (w'.heap[gk]? = some (.cells #[.int .i64 (k : Int)] 3 (0, 0))) ∧ Aside0 (w'.heap[gl]? = some (.cells #[.slice A0 l0.length c0] 44 (0, 0))) ∧ Aside0 (Below w.heap.size w w'))
   case atStart => exact ⟨[], 0, 0, rfl, Nat.zero_le _, Nat.zero_le _, rfl, HR, ⟨Kd.R_nil _ _ _ _ _⟩, BK, BL, HB⟩
   case round =>
    have HR9 := HR
    clear HR BK BL HB
    obtain ⟨out, i, k, rfl, hi, hk, rfl, HA, HO, BK, BL, HB⟩ := hrel
    by_cases hlt : i < l1.length
    ·have hd1 : decide ((i : Int) < (l1.length : Int)) = true := decide_eq_true (by omega)
     have hd2 : decide (i < l1.length) = true := decide_eq_true hlt
     obtain ⟨ad, ead, hxe⟩ := Kd.at_int (Kd.C_below HR1.out HB.out) (i : Int) (Int.natCast_nonneg i) (by omega)
     cases ead
     rw [Int.toNat_natCast] at hxe
     have hdr : l1.drop i = rd l1 (i : Int) :: l1.drop (i + 1) := by
      rw [List.drop_eq_getElem_cons hlt]
      simp [rd, List.getD, List.getElem?_eq_getElem hlt]
     have HD := Aside0.mk hdr
     clear hdr
     have p1 : 0 ≤ (i : Int) := Int.natCast_nonneg i
     have q1 : (i : Int) < (l1.length : Int) := by omega
     replace p1 := eq_true p1
     replace q1 := eq_true q1
     by_cases hc : measure_behind.nx l0 (rd l1 (i : Int)) k < l0.length
     ·have hq : decide (measure_behind.nx l0 (rd l1 (i : Int)) k < l0.length) = true := decide_eq_true hc
      have HN := Aside0.mk (measure_behind.nx_le (l := l0) (t := rd l1 (i : Int)) hk)
      have HLN : Aside0 ((out.length + 1) * 16 ≤ 140737488355328) := by
       have h1 := congrArg List.length HA.out
       have h2 := congrArg List.length HR9.out
       have h3 := measure_behind.l_len l0 l1 0
       rw [List.length_append] at h1
       exact ⟨by omega⟩
      have HC := Aside0.mk hc
      clear hc
      have HZ := Aside0.mk hlt
      clear hlt
      go_wp2_with (first | ((with_reducible refine gate_dst (N := 22) rfl ?_); refine Kd.goesC_ (some 22) rfl rfl Try.func56 (by kernel_rfl) rfl (cap := #[.pointer (some ⟨gk, 0, none⟩), .pointer (some ⟨gl, 0, none⟩)]) #[.int .i64 (rd l1 (i : Int))] rfl rfl (by (try simp only [List.map_toArray, List.map_cons, List.map_nil]); first | done | rfl) ?_; refine (measure_behind.next gk gl A0 c0 l0 (rd l1 (i : Int)) k w _ HB.out HR0.out BK.out BL.out GK.out GL.out hk hl0).mono ?_; rintro e w2 ⟨rfl, hb, hkp, hbk⟩; refine ⟨_, rfl, ?_⟩; have n0_ := Aside0.mk (Kd.R_kept (Kd.R_types HO.out BK.out (by decide)) hkp (fun k_ h_ => h_.2)); have n1_ := Aside0.mk (blk_kept BL.out hkp (fun e_ => blk_ne BK.out BL.out (by decide) e_.symm)); have n2_ := Aside0.mk hb; have n3_ := Aside0.mk hbk; clear HO BK BL HB; have HO := n0_; have BL := n1_; have HB := n2_; have BK := n3_; clear n0_ n1_ n2_ n3_ hb hkp hbk; rw [hq]) | ((with_reducible refine gate_builtin (b := .append) (xs := #[.tmp 26, .tmp 32]) rfl ?_); at_builtin; refine Kd.R_append k36 (w0 := w) w.heap.size rfl (.tmp 26) (.tmp 32) 30 36 (.agg #[(.int .i64 0), (.int .i64 0)]) 16 rfl Try.underlying30 info36 rfl (by decide) (by omega) u5 out (⟨rd l1 (i : Int), wrap64 (rd l0 (measure_behind.nx l0 (rd l1 (i : Int)) k : Int) - rd l1 (i : Int))⟩ : S36) [.int .i64 (rd l1 (i : Int)), .int .i64 (wrap64 (rd l0 (measure_behind.nx l0 (rd l1 (i : Int)) k : Int) - rd l1 (i : Int)))] (fun _ => True) (fun _ => False) rfl (by first | (go_simp; done) | (go_simp; rfl)) ?aP (fun _ hk => hk.elim) ?aF ?aO ?aB ?aS ?aL ?_; (case aP => exact k36_mkM _ _ _ (⟨rd l1 (i : Int), _⟩ : S36)); (case aB => exact HB.out); (case aF => exact (fun _ _ => trivial)); (case aO => exact Kd.R_mono HO.out (fun _ _ => trivial)); (case aS => exact below_size HB.out); (case aL => exact HLN.out); intro v3 w3 ho hb hg hat; have n0_ := Aside0.mk (blk_grown BK.out hg (Kd.R_ne HO.out BK.out (by decide))); have n1_ := Aside0.mk (blk_grown BL.out hg (Kd.R_ne HO.out BL.out (by decide))); have n2_ := Aside0.mk hb; have n3_ := Aside0.mk ho; clear HO BK BL HB; have HO := n3_; have BL := n1_; have HB := n2_; have BK := n0_; clear n0_ n1_ n2_ n3_ hb hg ho hat))
      go_roundg (l1.length - (i + 1))
      case measure => have := HZ.out; omega
      case rel =>
       have hz := HZ.out
       refine ⟨_, i + 1, measure_behind.nx l0 (rd l1 (i : Int)) k, rfl, by omega, HN.out, by first | rfl | go_num, ⟨?_⟩, HO, BK, BL, HB⟩
       have ha := HA.out
       rw [HD.out, measure_behind.l_cons, if_pos HC.out] at ha
       rw [← ha]
       simp
     ·have hq : decide (measure_behind.nx l0 (rd l1 (i : Int)) k < l0.length) = false := decide_eq_false hc
      have HN := Aside0.mk (measure_behind.nx_le (l := l0) (t := rd l1 (i : Int)) hk)
      have HC := Aside0.mk hc
      clear hc
      have HZ := Aside0.mk hlt
      clear hlt
      go_wp2_with ((with_reducible refine gate_dst (N := 22) rfl ?_); refine Kd.goesC_ (some 22) rfl rfl Try.func56 (by kernel_rfl) rfl (cap := #[.pointer (some ⟨gk, 0, none⟩), .pointer (some ⟨gl, 0, none⟩)]) #[.int .i64 (rd l1 (i : Int))] rfl rfl (by (try simp only [List.map_toArray, List.map_cons, List.map_nil]); first | done | rfl) ?_; refine (measure_behind.next gk gl A0 c0 l0 (rd l1 (i : Int)) k w _ HB.out HR0.out BK.out BL.out GK.out GL.out hk hl0).mono ?_; rintro e w2 ⟨rfl, hb, hkp, hbk⟩; refine ⟨_, rfl, ?_⟩; have n0_ := Aside0.mk (Kd.R_kept (Kd.R_types HO.out BK.out (by decide)) hkp (fun k_ h_ => h_.2)); have n1_ := Aside0.mk (blk_kept BL.out hkp (fun e_ => blk_ne BK.out BL.out (by decide) e_.symm)); have n2_ := Aside0.mk hb; have n3_ := Aside0.mk hbk; clear HO BK BL HB; have HO := n0_; have BL := n1_; have HB := n2_; have BK := n3_; clear n0_ n1_ n2_ n3_ hb hkp hbk; rw [hq])
      go_roundg (l1.length - (i + 1))
      case measure => have := HZ.out; omega
      case rel =>
       have hz := HZ.out
       refine ⟨_, i + 1, measure_behind.nx l0 (rd l1 (i : Int)) k, rfl, by omega, HN.out, by first | rfl | go_num, ⟨?_⟩, ⟨Kd.R_mono HO.out (fun _ _ => trivial)⟩, BK, BL, HB⟩
       have ha := HA.out
       rw [HD.out, measure_behind.l_cons, if_neg HC.out] at ha
       exact ha
    ·have hd1 : decide ((i : Int) < (l1.length : Int)) = false := decide_eq_false (by omega)
     have hd2 : decide (i < l1.length) = false := decide_eq_false hlt
     go_wp2
     go_ret
     have ha := HA.out
     rw [List.drop_eq_nil_of_le (by omega)] at ha
     simp only [measure_behind.l, List.append_nil] at ha
     subst ha
     exact ⟨_, rfl, HO.out, HB.out⟩
  ·rw [if_neg hl1] at h
   cases h
 ·rw [if_neg hl0] at h
  cases h

end Go.Proofs.Ytdbbmjfiglcfhaa.Q
