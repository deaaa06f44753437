/- Layer 16 (plan): a plan that is written over: what stays of its memory's form. No walk. -/
import Derived.Test.YtichfebfcapnhaaProg
import Derived.Test.YtichfebfcapnhaaPnX
namespace Go.Proofs
open Go.RowKit Go.Ink
set_option linter.unusedVariables false
set_option linter.unusedSimpArgs false

/-- a row of at least l elements -/
def HasRow (w : World) (e : TypeId) (sz lo hi l : Nat) (v : Value) : Prop := ∃ a c, v = .slice a l c ∧ (0 < l → ∃ g cs, a = some ⟨g, 0, none⟩ ∧ lo ≤ g ∧ g < hi ∧ w.heap[g]? = some (.cells cs e (0, 0)) ∧ l * sz ≤ cs.size)
theorem HasRow.set {w : World} {e : TypeId} {sz lo hi l : Nat} {v : Value} (h : HasRow w e sz lo hi l v) (b j : Nat) (u : Value) : HasRow (w.setCell ⟨b, j, none⟩ u) e sz lo hi l v := by
  obtain ⟨a, c, rfl, h⟩ := h
  refine ⟨a, c, rfl, fun hl => ?_⟩
  obtain ⟨g, cs, ha, h1, h2, hg, hs⟩ := h hl
  by_cases hb : g = b
  · subst hb
    exact ⟨g, _, ha, h1, h2, set_at j u hg, by simpa using hs⟩
  · exact ⟨g, cs, ha, h1, h2, (show Keep (fun b' => b' ≠ b) w _ from Keep.setCell _ _ _ (by simp)).heap hg hb, hs⟩
theorem HasRow.keep {w w' : World} {e : TypeId} {sz lo hi l : Nat} {v : Value} {C : Nat → Prop} (h : HasRow w e sz lo hi l v) (hK : Keep C w w') (hC : ∀ b, b < hi → C b) : HasRow w' e sz lo hi l v := by
  obtain ⟨a, c, rfl, h⟩ := h
  refine ⟨a, c, rfl, fun hl => ?_⟩
  obtain ⟨g, cs, ha, h1, h2, hg, hs⟩ := h hl
  exact ⟨g, cs, ha, h1, h2, hK.heap hg (hC g h2), hs⟩
theorem HasRow.own {base : Nat} {w : World} {e : TypeId} {sz l : Nat} {v : Value} {xs : List Value} (h : w.ownsRow base e sz v l xs) : HasRow w e sz base w.heap.size l v := by
  rcases h.2 with ⟨rfl, h0⟩ | ⟨g, cap, cur, rfl, hb, hg, hnc, hcm, hcs, _⟩
  · subst h0; exact ⟨none, 0, rfl, fun h => by omega⟩
  · exact ⟨_, cap, rfl, fun _ => ⟨g, cur, rfl, hb, heap_lt hg, hg, by rw [hcs]; exact Nat.mul_le_mul_right _ hnc⟩⟩
/-- an element's cells -/
theorem HasRow.at {w : World} {e : TypeId} {sz lo hi l c : Nat} {a : Option Addr} (h : HasRow w e sz lo hi l (.slice a l c)) {k : Nat} (hk : k < l) :
    ∃ g, a = some ⟨g, 0, none⟩ ∧ lo ≤ g ∧ g < hi ∧ g < w.heap.size ∧ (∃ cs, w.heap[g]? = some (.cells cs e (0, 0))) ∧ ∀ j, j < sz → (∃ u, w.cell? ⟨g, k * sz + j, none⟩ = some u) ∧ w.frozen? ⟨g, k * sz + j, none⟩ = false := by
  obtain ⟨a', c', hv, h⟩ := h
  cases hv
  obtain ⟨g, cs, ha, h1, h2, hg, hs⟩ := h (by omega)
  refine ⟨g, ha, h1, h2, heap_lt hg, ⟨cs, hg⟩, fun j hj => ?_⟩
  have hlt : k * sz + j < cs.size := by
    have := Nat.mul_le_mul_right sz (show k + 1 ≤ l from hk)
    rw [Nat.add_mul] at this
    omega
  have := cells_of_block hg (k * sz + j) (cs[k * sz + j]'hlt) (by rw [Array.getElem?_toList]; exact Array.getElem?_eq_getElem hlt)
  rw [Nat.zero_add] at this
  exact ⟨⟨_, this⟩, box_free hg _⟩

/-- the form of a plan's memory: of the steps their lists, of the literals from i0 on their arguments -/
structure Shape (w : World) (vh vb vs : Value) (lo hi na : Nat) (ds : List (Value × Nat × Value × Nat)) (bs : List (Value × Nat)) (i0 : Nat) : Prop where
  hd : HasRow w 76 2 lo hi na vh
  st : ∃ a c, vs = .slice a ds.length c ∧ (0 < ds.length → ∃ g cs, a = some ⟨g, 0, none⟩ ∧ lo ≤ g ∧ g < hi ∧ w.heap[g]? = some (.cells cs 73 (0, 0)) ∧ ds.length * 3 ≤ cs.size ∧ ∀ i d, ds[i]? = some d → cs[i * 3 + 1]? = some d.1 ∧ cs[i * 3 + 2]? = some d.2.2.1)
  sr : ∀ d, d ∈ ds → HasRow w 3 1 lo hi d.2.1 d.1 ∧ HasRow w 9 1 lo hi d.2.2.2 d.2.2.1
  bd : ∃ a c, vb = .slice a bs.length c ∧ (0 < bs.length → ∃ g cs, a = some ⟨g, 0, none⟩ ∧ lo ≤ g ∧ g < hi ∧ w.heap[g]? = some (.cells cs 78 (0, 0)) ∧ bs.length * 7 ≤ cs.size ∧ ∀ i d, i0 ≤ i → bs[i]? = some d → cs[i * 7 + 2]? = some d.1)
  br : ∀ d, d ∈ bs → HasRow w 76 2 lo hi d.2 d.1
variable {w : World} {vh vb vs : Value} {lo hi na : Nat} {ds : List (Value × Nat × Value × Nat)} {bs : List (Value × Nat)} {i0 : Nat}
theorem Shape.set_leaf (h : Shape w vh vb vs lo hi na ds bs i0) {b : Nat} {t : TypeId} (hb : ∃ cs, w.heap[b]? = some (.cells cs t (0, 0))) (h1 : t ≠ 73) (h2 : t ≠ 78) (j : Nat) (u : Value) : Shape (w.setCell ⟨b, j, none⟩ u) vh vb vs lo hi na ds bs i0 := by
  obtain ⟨cb, hb⟩ := hb
  have hK : Keep (fun b' => b' ≠ b) w (w.setCell ⟨b, j, none⟩ u) := Keep.setCell _ _ _ (by simp)
  refine ⟨h.hd.set _ _ _, ?_, fun d hd => ⟨(h.sr d hd).1.set _ _ _, (h.sr d hd).2.set _ _ _⟩, ?_, fun d hd => (h.br d hd).set _ _ _⟩
  · obtain ⟨a, c, hv, h3⟩ := h.st
    refine ⟨a, c, hv, fun hl => ?_⟩
    obtain ⟨g, cs, ha, l1, l2, hg, hs, hc⟩ := h3 hl
    refine ⟨g, cs, ha, l1, l2, hK.heap hg (fun e => ?_), hs, hc⟩
    subst e
    rw [hg] at hb
    have := Option.some.inj hb
    injection this with _ ht _
    exact h1 ht.symm
  · obtain ⟨a, c, hv, h3⟩ := h.bd
    refine ⟨a, c, hv, fun hl => ?_⟩
    obtain ⟨g, cs, ha, l1, l2, hg, hs, hc⟩ := h3 hl
    refine ⟨g, cs, ha, l1, l2, hK.heap hg (fun e => ?_), hs, hc⟩
    subst e
    rw [hg] at hb
    have := Option.some.inj hb
    injection this with _ ht _
    exact h2 ht.symm
theorem Shape.keep (h : Shape w vh vb vs lo hi na ds bs i0) {w' : World} {C : Nat → Prop} (hK : Keep C w w') (hC : ∀ b, b < hi → C b) : Shape w' vh vb vs lo hi na ds bs i0 := by
  refine ⟨h.hd.keep hK hC, ?_, fun d hd => ⟨(h.sr d hd).1.keep hK hC, (h.sr d hd).2.keep hK hC⟩, ?_, fun d hd => (h.br d hd).keep hK hC⟩
  · obtain ⟨a, c, hv, h3⟩ := h.st
    refine ⟨a, c, hv, fun hl => ?_⟩
    obtain ⟨g, cs, ha, l1, l2, hg, hs, hc⟩ := h3 hl
    exact ⟨g, cs, ha, l1, l2, hK.heap hg (hC g l2), hs, hc⟩
  · obtain ⟨a, c, hv, h3⟩ := h.bd
    refine ⟨a, c, hv, fun hl => ?_⟩
    obtain ⟨g, cs, ha, l1, l2, hg, hs, hc⟩ := h3 hl
    exact ⟨g, cs, ha, l1, l2, hK.heap hg (hC g l2), hs, hc⟩
theorem Shape.later (h : Shape w vh vb vs lo hi na ds bs i0) {i : Nat} (hi2 : i0 ≤ i) : Shape w vh vb vs lo hi na ds bs i := by
  refine ⟨h.hd, h.st, h.sr, ?_, h.br⟩
  obtain ⟨a, c, hv, h3⟩ := h.bd
  refine ⟨a, c, hv, fun hl => ?_⟩
  obtain ⟨g, cs, ha, l1, l2, hg, hs, hc⟩ := h3 hl
  exact ⟨g, cs, ha, l1, l2, hg, hs, fun k d h1 h2 => hc k d (by omega) h2⟩
/-- a step's cells -/
theorem Shape.stepAt {a : Option Addr} {n c : Nat} (h : Shape w vh vb (.slice a n c) lo hi na ds bs i0) {i : Nat} {d : Value × Nat × Value × Nat} (hd : ds[i]? = some d) :
    ∃ g, a = some ⟨g, 0, none⟩ ∧ lo ≤ g ∧ g < hi ∧ g < w.heap.size ∧ w.cell? ⟨g, i * 3 + 1, none⟩ = some d.1 ∧ w.cell? ⟨g, i * 3 + 2, none⟩ = some d.2.2.1 ∧ (∃ u, w.cell? ⟨g, i * 3, none⟩ = some u) ∧ w.frozen? ⟨g, i * 3, none⟩ = false ∧ ∀ u, Shape (w.setCell ⟨g, i * 3, none⟩ u) vh vb (.slice a n c) lo hi na ds bs i0 := by
  have hlt := (List.getElem?_eq_some_iff.1 hd).1
  obtain ⟨a', c', hv, h3⟩ := h.st
  cases hv
  obtain ⟨g, cs, ha, l1, l2, hg, hs, hc⟩ := h3 (by omega)
  obtain ⟨q1, q2⟩ := hc i d hd
  have e1 := cells_of_block hg (i * 3 + 1) _ (by rw [Array.getElem?_toList]; exact q1)
  have e2 := cells_of_block hg (i * 3 + 2) _ (by rw [Array.getElem?_toList]; exact q2)
  have e0 := cells_of_block hg (i * 3) (cs[i * 3]'(by omega)) (by rw [Array.getElem?_toList]; exact Array.getElem?_eq_getElem (by omega))
  rw [Nat.zero_add] at e0 e1 e2
  refine ⟨g, ha, l1, l2, heap_lt hg, e1, e2, ⟨_, e0⟩, box_free hg _, fun u => ?_⟩
  have hK : Keep (fun b' => b' ≠ g) w (w.setCell ⟨g, i * 3, none⟩ u) := Keep.setCell _ _ _ (by simp)
  refine ⟨h.hd.set _ _ _, ⟨a, c, rfl, fun hl => ⟨g, _, ha, l1, l2, set_at _ u hg, by simpa using hs, fun k d' hk => ?_⟩⟩, fun d hd => ⟨(h.sr d hd).1.set _ _ _, (h.sr d hd).2.set _ _ _⟩, ?_, fun d hd => (h.br d hd).set _ _ _⟩
  · rw [Array.getElem?_setIfInBounds_ne (by omega), Array.getElem?_setIfInBounds_ne (by omega)]
    exact hc k d' hk
  · obtain ⟨a2, c2, hv2, h4⟩ := h.bd
    refine ⟨a2, c2, hv2, fun hl => ?_⟩
    obtain ⟨g2, cs2, ha2, m1, m2, hg2, hs2, hc2⟩ := h4 hl
    refine ⟨g2, cs2, ha2, m1, m2, hK.heap hg2 (fun e => ?_), hs2, hc2⟩
    subst e
    rw [hg] at hg2
    have := Option.some.inj hg2
    injection this with _ ht _
    exact absurd ht (by decide)
/-- a literal's arguments, and what is left when it is written over -/
theorem Shape.litAt {a : Option Addr} {n c : Nat} (h : Shape w vh (.slice a n c) vs lo hi na ds bs i0) {i : Nat} {d : Value × Nat} (hi0 : i0 ≤ i) (hd : bs[i]? = some d) :
    ∃ g, a = some ⟨g, 0, none⟩ ∧ lo ≤ g ∧ g < hi ∧ g < w.heap.size ∧ w.cell? ⟨g, i * 7 + 2, none⟩ = some d.1 ∧ ∀ j, j < 7 → (∃ u, w.cell? ⟨g, i * 7 + j, none⟩ = some u) ∧ w.frozen? ⟨g, i * 7 + j, none⟩ = false := by
  have hlt := (List.getElem?_eq_some_iff.1 hd).1
  obtain ⟨a', c', hv, h3⟩ := h.bd
  cases hv
  obtain ⟨g, cs, ha, l1, l2, hg, hs, hc⟩ := h3 (by omega)
  have e2 := cells_of_block hg (i * 7 + 2) _ (by rw [Array.getElem?_toList]; exact hc i d hi0 hd)
  rw [Nat.zero_add] at e2
  refine ⟨g, ha, l1, l2, heap_lt hg, e2, fun j hj => ?_⟩
  have e0 := cells_of_block hg (i * 7 + j) (cs[i * 7 + j]'(by omega)) (by rw [Array.getElem?_toList]; exact Array.getElem?_eq_getElem (by omega))
  rw [Nat.zero_add] at e0
  exact ⟨⟨_, e0⟩, box_free hg _⟩
theorem Shape.set_lit {g n c : Nat} (h : Shape w vh (.slice (some ⟨g, 0, none⟩) n c) vs lo hi na ds bs i0) {i : Nat} (hi0 : i0 = i + 1) (hlt : i < bs.length) (j : Nat) (hj : j < 7) (u : Value) : Shape (w.setCell ⟨g, i * 7 + j, none⟩ u) vh (.slice (some ⟨g, 0, none⟩) n c) vs lo hi na ds bs i0 := by
  obtain ⟨a', c', hv, h3⟩ := h.bd
  cases hv
  obtain ⟨g', cs, ha, l1, l2, hg, hs, hc⟩ := h3 (by omega)
  cases ha
  have hK : Keep (fun b' => b' ≠ g) w (w.setCell ⟨g, i * 7 + j, none⟩ u) := Keep.setCell _ _ _ (by simp)
  refine ⟨h.hd.set _ _ _, ?_, fun d hd => ⟨(h.sr d hd).1.set _ _ _, (h.sr d hd).2.set _ _ _⟩, ⟨_, c, rfl, fun hl => ⟨g, _, rfl, l1, l2, set_at _ u hg, by simpa using hs, fun k d' h0 hk => ?_⟩⟩, fun d hd => (h.br d hd).set _ _ _⟩
  · obtain ⟨a2, c2, hv2, h4⟩ := h.st
    refine ⟨a2, c2, hv2, fun hl => ?_⟩
    obtain ⟨g2, cs2, ha2, m1, m2, hg2, hs2, hc2⟩ := h4 hl
    refine ⟨g2, cs2, ha2, m1, m2, hK.heap hg2 (fun e => ?_), hs2, hc2⟩
    subst e
    rw [hg] at hg2
    have := Option.some.inj hg2
    injection this with _ ht _
    exact absurd ht (by decide)
  · rw [Array.getElem?_setIfInBounds_ne (by omega)]
    exact hc k d' h0 hk
/-- a plan of one's own has that form -/
theorem PlanOwn.shape {base : Nat} {p : PlanD} (h : PlanOwn base w vh vb vs p) : ∃ ds bs, ds.length = p.steps.length ∧ bs.length = p.rule.body.length ∧ (∀ d, d ∈ ds → ∃ s, s ∈ p.steps ∧ d.2.1 = s.bound.length ∧ d.2.2.2 = s.new.length) ∧ (∀ d, d ∈ bs → ∃ L, L ∈ p.rule.body ∧ d.2 = L.atom.args.length) ∧ Shape w vh vb vs base w.heap.size p.rule.head.args.length ds bs 0 := by
  obtain ⟨⟨h1, ps, hps, h2, h3⟩, qs, hqs, h4, h5⟩ := h
  refine ⟨qs.map fun q => (q.2.1, q.1.bound.length, q.2.2, q.1.new.length), ps.map fun q => (q.2, q.1.atom.args.length), by rw [List.length_map, ← hqs, List.length_map], by rw [List.length_map, ← hps, List.length_map], fun d hd => ?_, fun d hd => ?_, ⟨HasRow.own h1, ?_, fun d hd => ?_, ?_, fun d hd => ?_⟩⟩
  · obtain ⟨q, hq, rfl⟩ := List.mem_map.1 hd
    exact ⟨q.1, by rw [← hqs]; exact List.mem_map.2 ⟨q, hq, rfl⟩, rfl, rfl⟩
  · obtain ⟨q, hq, rfl⟩ := List.mem_map.1 hd
    exact ⟨q.1, by rw [← hps]; exact List.mem_map.2 ⟨q, hq, rfl⟩, rfl⟩
  · have hl : qs.length = p.steps.length := by rw [← hqs, List.length_map]
    rcases h4.2 with ⟨rfl, h0⟩ | ⟨g, cap, cur, rfl, hb, hg, hnc, hcm, hcs, ht⟩
    · exact ⟨none, 0, by rw [List.length_map, hl, h0], fun h => by rw [List.length_map] at h; omega⟩
    · refine ⟨_, cap, by rw [List.length_map, hl], fun _ => ⟨g, cur, rfl, hb, heap_lt hg, hg, by rw [List.length_map]; omega, fun i d hd => ?_⟩⟩
      rw [List.getElem?_map] at hd
      obtain ⟨q, hq, rfl⟩ := Option.map_eq_some_iff.1 hd
      have hlt : i < qs.length := (List.getElem?_eq_some_iff.1 hq).1
      have e1 := flatMap_at stepC 3 (fun _ => rfl) qs i 1 q hq (by decide)
      have e2 := flatMap_at stepC 3 (fun _ => rfl) qs i 2 q hq (by decide)
      rw [← ht, List.getElem?_take, if_pos (by omega), Array.getElem?_toList] at e1 e2
      exact ⟨e1, e2⟩
  · obtain ⟨q, hq, rfl⟩ := List.mem_map.1 hd
    exact ⟨HasRow.own (h5 q hq).1, HasRow.own (h5 q hq).2⟩
  · have hl : ps.length = p.rule.body.length := by rw [← hps, List.length_map]
    rcases h2.2 with ⟨rfl, h0⟩ | ⟨g, cap, cur, rfl, hb, hg, hnc, hcm, hcs, ht⟩
    · exact ⟨none, 0, by rw [List.length_map, hl, h0], fun h => by rw [List.length_map] at h; omega⟩
    · refine ⟨_, cap, by rw [List.length_map, hl], fun _ => ⟨g, cur, rfl, hb, heap_lt hg, hg, by rw [List.length_map]; omega, fun i d _ hd => ?_⟩⟩
      rw [List.getElem?_map] at hd
      obtain ⟨q, hq, rfl⟩ := Option.map_eq_some_iff.1 hd
      have hlt : i < ps.length := (List.getElem?_eq_some_iff.1 hq).1
      have e1 := flatMap_at litC 7 (fun _ => rfl) ps i 2 q hq (by decide)
      rw [← ht, List.getElem?_take, if_pos (by omega), Array.getElem?_toList] at e1
      exact e1
  · obtain ⟨q, hq, rfl⟩ := List.mem_map.1 hd
    exact HasRow.own (h3 q hq)
end Go.Proofs

/- Layer 16 (plan): the law's spoil: a plan that was answered is written over. -/
namespace Go.Proofs
open Go.RowKit Go.Ink
set_option linter.unusedVariables false
set_option linter.unusedSimpArgs false
attribute [local go_sem] Oper.semAt_some

set_option maxRecDepth 100000 in
set_option maxHeartbeats 4000000 in
theorem spoil_any (pr : ByteArray) (vh vb vs : Value) (lo hi na : Nat) (ds : List (Value × Nat × Value × Nat)) (bs : List (Value × Nat)) (w : World) (hS : Shape w vh vb vs lo hi na ds bs 0) (hhi : hi ≤ w.heap.size)
    (hna : na ≤ 1073741824) (hdl : ds.length ≤ 1073741824) (hbl : bs.length ≤ 1073741824) (hds : ∀ d, d ∈ ds → d.2.1 ≤ 1073741824 ∧ d.2.2.2 ≤ 1073741824) (hbs : ∀ d, d ∈ bs → d.2 ≤ 1073741824) :
    Calls Try.prog 23 #[.agg #[.string pr, vh, vb, vs]] w fun e w' => e = .returned (.tuple #[]) ∧ Keep (fun b => b < lo ∨ hi ≤ b) w w' := by
  obtain ⟨ah, ch, rfl, -⟩ := id hS.hd
  obtain ⟨av, cv, rfl, -⟩ := id hS.st
  obtain ⟨ab, cb, rfl, -⟩ := id hS.bd
  obtain ⟨N, hN⟩ : ∃ N, w.heap.size = N := ⟨_, rfl⟩
  obtain ⟨W0, hW0⟩ : ∃ W0, w.alloc (.cells #[.string pr, .slice ah na ch, .slice ab bs.length cb, .slice av ds.length cv] 34) = W0 := ⟨_, rfl⟩
  have k0 : Keep (fun _ => True) w W0 := by rw [← hW0]; exact Keep.alloc _ _ _
  have z0 : W0.heap.size = w.heap.size + 1 := by rw [← hW0]; simp
  have a1 : W0.heap[w.heap.size]? = some (.cells #[.string pr, .slice ah na ch, .slice ab bs.length cb, .slice av ds.length cv] 34 (0, 0)) := by rw [← hW0]; exact new_block _ _
  rw [hN] at a1 z0 hhi
  have hS0 := hS.keep k0 (fun _ _ => trivial)
  clear hS
  have XhN := Lib.hid hN
  have XhW0 := Lib.hid hW0
  have Xk0 := Lib.hid k0
  have Xa1 := Lib.hid a1
  have XhS0 := Lib.hid hS0
  have Xhds := Lib.hid hds
  have Xhbs := Lib.hid hbs
  clear hN hW0 k0 a1 hS0 hds hbs
  go_enter Try.func23, Try.ntmps23
  go_wp2_with fail
  rw [XhW0.out, XhN.out]
  go_loopw [2] (fun i' wr => ∃ i : Nat, i ≤ ds.length ∧ i' = .int .i64 (i : Int) ∧ Keep (fun b => b < lo ∨ hi ≤ b) W0 wr ∧ Shape wr (.slice ah na ch) (.slice ab bs.length cb) (.slice av ds.length cv) lo hi na ds bs 0) (fun i _ => ds.length - (intOf i).toNat)
  case atStart => exact ⟨0, by omega, rfl, Keep.refl _ _, XhS0.out⟩
  case round =>
    obtain ⟨i, hi', rfl, hK, hS⟩ := hrel
    have hsz := hK.size
    have b1 := hK.heap Xa1.out (.inr hhi)
    have c3 := cells_of_block b1 3 _ rfl
    simp only [Nat.zero_add] at c3
    have hNw : N < wr.heap.size := by omega
    by_cases hlt : i < ds.length
    · have hlt1 : (i : Int) < ds.length := by omega
      have hi0 : (0 : Int) ≤ i := by omega
      obtain ⟨d, hd⟩ : ∃ d, ds[i]? = some d := ⟨_, List.getElem?_eq_getElem hlt⟩
      have hdm := List.mem_of_getElem? hd
      obtain ⟨g, rfl, g1, g2, -⟩ := hS.stepAt hd
      obtain ⟨hr1, hr2⟩ := hS.sr d hdm
      obtain ⟨hdl1, hdl2⟩ := Xhds.out d hdm
      obtain ⟨v1, n1, v2, n2⟩ := d
      simp only at hr1 hr2 hdl1 hdl2
      obtain ⟨ai, ci, rfl, -⟩ := hr1
      obtain ⟨as2, cs2, rfl, -⟩ := hr2
      have hst := fun W (h : Shape W (.slice ah na ch) (.slice ab bs.length cb) (.slice (some ⟨g, 0, none⟩) ds.length cv) lo hi na ds bs 0) => h.stepAt hd
      have hrw := fun W (h : Shape W (.slice ah na ch) (.slice ab bs.length cb) (.slice (some ⟨g, 0, none⟩) ds.length cv) lo hi na ds bs 0) => h.sr _ hdm
      simp only at hst hrw
      clear hd hdm b1 c3
      have XhK := Lib.hid hK
      have XhS := Lib.hid hS
      have Xhst := Lib.hid hst
      have Xhrw := Lib.hid hrw
      clear hK hS hst hrw
      have hcell := fun W (hK : Keep (fun b => b < lo ∨ hi ≤ b) W0 W) => cells_of_block (hK.heap Xa1.out (.inr hhi)) 3 _ rfl
      simp only [Nat.zero_add] at hcell
      have c3 := hcell wr XhK.out
      have Xhcell := Lib.hid hcell
      clear hcell
      obtain ⟨Wo, hWo⟩ : ∃ W, W = wr := ⟨_, rfl⟩
      subst hWo
      go_wp2_with fail
      go_loopw [3] (fun k' wr => ∃ k : Nat, k ≤ n1 ∧ k' = .int .i64 (k : Int) ∧ Keep (fun b => b < lo ∨ hi ≤ b) W0 wr ∧ Shape wr (.slice ah na ch) (.slice ab bs.length cb) (.slice (some ⟨g, 0, none⟩) ds.length cv) lo hi na ds bs 0) (fun i _ => n1 - (intOf i).toNat)
      case atStart => exact ⟨0, by omega, rfl, XhK.out, XhS.out⟩
      case round =>
        obtain ⟨k, hk, rfl, hK2, hS2⟩ := hrel
        have hsz2 := hK2.size
        have e3 := Xhcell.out wr hK2
        have hNw2 : N < wr.heap.size := by omega
        obtain ⟨g', hg', -, -, hgl, q1, q2, ⟨u0, q0⟩, qf, -⟩ := Xhst.out wr hS2
        cases hg'
        by_cases hlt2 : k < n1
        · have hlt3 : (k : Int) < n1 := by omega
          have hk0 : (0 : Int) ≤ k := by omega
          obtain ⟨gi, rfl, l1, l2, hgil, hty, hcells⟩ := (Xhrw.out wr hS2).1.at hlt2
          obtain ⟨⟨u1, p1⟩, p2⟩ := hcells 0 (by decide)
          simp only [Nat.mul_one, Nat.add_zero] at p1 p2
          have hS3 := hS2.set_leaf hty (by decide) (by decide) k (.int .i64 (-9))
          have hK3 : Keep (fun b => b < lo ∨ hi ≤ b) W0 (wr.setCell ⟨gi, k, none⟩ (.int .i64 (-9))) := hK2.trans (Keep.setCell _ _ _ (by simp; omega))
          clear hcells hty
          have XhK2 := Lib.hid hK2
          have XhS2 := Lib.hid hS2
          have XhS3 := Lib.hid hS3
          have XhK3 := Lib.hid hK3
          clear hK2 hS2 hS3 hK3
          go_wp2_with fail
          go_roundw
          case rel => exact ⟨k + 1, by omega, by go_num, XhK3.out, XhS3.out⟩
          case measure => simp [intOf]; omega
        · obtain rfl : k = n1 := by omega
          have hlt30 : ¬ (k : Int) < k := by omega
          obtain ⟨Wo2, hWo2⟩ : ∃ W, W = wr := ⟨_, rfl⟩
          subst hWo2
          have XhK2 := Lib.hid hK2
          have XhS2 := Lib.hid hS2
          clear hK2 hS2
          go_wp2_with fail
          go_loopw [4] (fun k' wr => ∃ k : Nat, k ≤ n2 ∧ k' = .int .i64 (k : Int) ∧ Keep (fun b => b < lo ∨ hi ≤ b) W0 wr ∧ Shape wr (.slice ah na ch) (.slice ab bs.length cb) (.slice (some ⟨g, 0, none⟩) ds.length cv) lo hi na ds bs 0) (fun i _ => n2 - (intOf i).toNat)
          case atStart => exact ⟨0, by omega, rfl, XhK2.out, XhS2.out⟩
          case round =>
            obtain ⟨k, hk, rfl, hK3, hS3⟩ := hrel
            have hsz3 := hK3.size
            have e3' := Xhcell.out wr hK3
            have hNw3 : N < wr.heap.size := by omega
            obtain ⟨g', hg', -, -, hgl', q1', q2', ⟨u5', q0'⟩, qf', hset⟩ := Xhst.out wr hS3
            cases hg'
            by_cases hlt4 : k < n2
            · have hlt5 : (k : Int) < n2 := by omega
              have hk0 : (0 : Int) ≤ k := by omega
              obtain ⟨gi, rfl, l1, l2, hgil, hty, hcells⟩ := (Xhrw.out wr hS3).2.at hlt4
              obtain ⟨⟨u1, p1⟩, p2⟩ := hcells 0 (by decide)
              simp only [Nat.mul_one, Nat.add_zero] at p1 p2
              have hS4 := hS3.set_leaf hty (by decide) (by decide) k (.string ⟨#[120]⟩)
              have hK4 : Keep (fun b => b < lo ∨ hi ≤ b) W0 (wr.setCell ⟨gi, k, none⟩ (.string ⟨#[120]⟩)) := hK3.trans (Keep.setCell _ _ _ (by simp; omega))
              clear hcells hty hset
              have XhK3 := Lib.hid hK3
              have XhS3 := Lib.hid hS3
              have XhS4 := Lib.hid hS4
              have XhK4 := Lib.hid hK4
              clear hK3 hS3 hS4 hK4
              go_wp2_with fail
              go_roundw
              case rel => exact ⟨k + 1, by omega, by go_num, XhK4.out, XhS4.out⟩
              case measure => simp [intOf]; omega
            · obtain rfl : k = n2 := by omega
              have hlt50 : ¬ (k : Int) < k := by omega
              have hS4 := hset (.int .i64 (-9))
              have hK4 : Keep (fun b => b < lo ∨ hi ≤ b) W0 (wr.setCell ⟨g, i * 3, none⟩ (.int .i64 (-9))) := hK3.trans (Keep.setCell _ _ _ (by simp; omega))
              clear hset
              have XhK3 := Lib.hid hK3
              have XhS3 := Lib.hid hS3
              have XhS4 := Lib.hid hS4
              have XhK4 := Lib.hid hK4
              clear hK3 hS3 hS4 hK4
              go_wp2_with fail
              go_roundw
              case rel => exact ⟨i + 1, by omega, by go_num, XhK4.out, XhS4.out⟩
              case measure => simp [intOf]; omega
    · obtain rfl : i = ds.length := by omega
      have hlt0 : ¬ (ds.length : Int) < ds.length := by omega
      have hcell := fun W (hK : Keep (fun b => b < lo ∨ hi ≤ b) W0 W) j u (hj : ([.string pr, .slice ah na ch, .slice ab bs.length cb, .slice av ds.length cv] : List Value)[j]? = some u) => cells_of_block (hK.heap Xa1.out (.inr hhi)) j u hj
      clear b1
      obtain ⟨Wo, hWo⟩ : ∃ W, W = wr := ⟨_, rfl⟩
      subst hWo
      have XhK := Lib.hid hK
      have XhS := Lib.hid hS
      have Xhcell := Lib.hid hcell
      clear hK hS hcell
      go_wp2_with fail
      go_loopw [5] (fun k' wr => ∃ k : Nat, k ≤ na ∧ k' = .int .i64 (k : Int) ∧ Keep (fun b => b < lo ∨ hi ≤ b) W0 wr ∧ Shape wr (.slice ah na ch) (.slice ab bs.length cb) (.slice av ds.length cv) lo hi na ds bs 0) (fun i _ => na - (intOf i).toNat)
      case atStart => exact ⟨0, by omega, rfl, XhK.out, XhS.out⟩
      case round =>
        obtain ⟨k, hk, rfl, hK2, hS2⟩ := hrel
        have hsz2 := hK2.size
        have e1 := Xhcell.out wr hK2 1 _ rfl
        simp only [Nat.zero_add] at e1
        have hNw2 : N < wr.heap.size := by omega
        by_cases hlt2 : k < na
        · have hlt3 : (k : Int) < na := by omega
          have hk0 : (0 : Int) ≤ k := by omega
          obtain ⟨gi, rfl, l1, l2, hgil, hty, hcells⟩ := hS2.hd.at hlt2
          obtain ⟨⟨u1, p1⟩, p2⟩ := hcells 0 (by decide)
          obtain ⟨⟨u2', p3⟩, p4⟩ := hcells 1 (by decide)
          simp only [Nat.add_zero] at p1 p2
          have hS3 := (hS2.set_leaf hty (by decide) (by decide) (k * 2) (.bool false)).set_leaf (b := gi) (by
            obtain ⟨cs, h⟩ := hty
            exact ⟨_, set_at _ _ h⟩) (by decide) (by decide) (k * 2 + 1) (.string ⟨#[120]⟩)
          have hK3 : Keep (fun b => b < lo ∨ hi ≤ b) W0 ((wr.setCell ⟨gi, k * 2, none⟩ (.bool false)).setCell ⟨gi, k * 2 + 1, none⟩ (.string ⟨#[120]⟩)) := (hK2.trans (Keep.setCell _ _ _ (by simp; omega))).trans (Keep.setCell _ _ _ (by simp; omega))
          clear hcells hty
          have XhK2 := Lib.hid hK2
          have XhS2 := Lib.hid hS2
          have XhS3 := Lib.hid hS3
          have XhK3 := Lib.hid hK3
          clear hK2 hS2 hS3 hK3
          go_wp2_with fail
          go_roundw
          case rel => exact ⟨k + 1, by omega, by go_num, XhK3.out, XhS3.out⟩
          case measure => simp [intOf]; omega
        · obtain rfl : k = na := by omega
          have hlt30 : ¬ (k : Int) < k := by omega
          obtain ⟨Wo2, hWo2⟩ : ∃ W, W = wr := ⟨_, rfl⟩
          subst hWo2
          have XhK2 := Lib.hid hK2
          have XhS2 := Lib.hid hS2
          clear hK2 hS2
          go_wp2_with fail
          go_loopw [6] (fun i' wr => ∃ i : Nat, i ≤ bs.length ∧ i' = .int .i64 (i : Int) ∧ Keep (fun b => b < lo ∨ hi ≤ b) W0 wr ∧ Shape wr (.slice ah k ch) (.slice ab bs.length cb) (.slice av ds.length cv) lo hi k ds bs i) (fun i _ => bs.length - (intOf i).toNat)
          case atStart => exact ⟨0, by omega, rfl, XhK2.out, XhS2.out⟩
          case round =>
            obtain ⟨i, hi2, rfl, hK3, hS3⟩ := hrel
            have hsz3 := hK3.size
            have e2 := Xhcell.out wr hK3 2 _ rfl
            simp only [Nat.zero_add] at e2
            have hNw3 : N < wr.heap.size := by omega
            by_cases hlt4 : i < bs.length
            · have hlt5 : (i : Int) < bs.length := by omega
              have hi0 : (0 : Int) ≤ i := by omega
              obtain ⟨d, hd⟩ : ∃ d, bs[i]? = some d := ⟨_, List.getElem?_eq_getElem hlt4⟩
              have hdm := List.mem_of_getElem? hd
              obtain ⟨g, rfl, g1, g2, hgl, q2, -⟩ := hS3.litAt (Nat.le_refl _) hd
              have hr1 := hS3.br d hdm
              have hdl1 := Xhbs.out d hdm
              have hlit := fun W (h : Shape W (.slice ah k ch) (.slice (some ⟨g, 0, none⟩) bs.length cb) (.slice av ds.length cv) lo hi k ds bs i) => h.litAt (Nat.le_refl _) hd
              have hbr := fun W (h : Shape W (.slice ah k ch) (.slice (some ⟨g, 0, none⟩) bs.length cb) (.slice av ds.length cv) lo hi k ds bs i) => h.br d hdm
              obtain ⟨v1, n1⟩ := d
              simp only at hr1 hdl1 q2 hlit hbr
              obtain ⟨ai, ci, rfl, -⟩ := hr1
              obtain ⟨Wo3, hWo3⟩ : ∃ W, W = wr := ⟨_, rfl⟩
              subst hWo3
              clear hd hdm
              have XhK3 := Lib.hid hK3
              have XhS3 := Lib.hid hS3
              have Xhlit := Lib.hid hlit
              have Xhbr := Lib.hid hbr
              clear hK3 hS3 hlit hbr
              go_wp2_with fail
              go_loopw [8] (fun k' wr => ∃ m : Nat, m ≤ n1 ∧ k' = .int .i64 (m : Int) ∧ Keep (fun b => b < lo ∨ hi ≤ b) W0 wr ∧ Shape wr (.slice ah k ch) (.slice (some ⟨g, 0, none⟩) bs.length cb) (.slice av ds.length cv) lo hi k ds bs i) (fun i _ => n1 - (intOf i).toNat)
              case atStart => exact ⟨0, by omega, rfl, XhK3.out, XhS3.out⟩
              case round =>
                obtain ⟨m, hm, rfl, hK4, hS4⟩ := hrel
                have hsz4 := hK4.size
                have e4 := Xhcell.out wr hK4 2 _ rfl
                simp only [Nat.zero_add] at e4
                have hNw4 : N < wr.heap.size := by omega
                by_cases hlt6 : m < n1
                · have hlt7 : (m : Int) < n1 := by omega
                  have hm0 : (0 : Int) ≤ m := by omega
                  obtain ⟨gi, rfl, l1, l2, hgil, hty, hcells⟩ := (Xhbr.out wr hS4).at hlt6
                  obtain ⟨⟨u1, p1⟩, p2⟩ := hcells 0 (by decide)
                  obtain ⟨⟨u2', p3⟩, p4⟩ := hcells 1 (by decide)
                  simp only [Nat.add_zero] at p1 p2
                  have hS5 := (hS4.set_leaf hty (by decide) (by decide) (m * 2) (.bool false)).set_leaf (b := gi) (by
                    obtain ⟨cs, h⟩ := hty
                    exact ⟨_, set_at _ _ h⟩) (by decide) (by decide) (m * 2 + 1) (.string ⟨#[120]⟩)
                  have hK5 : Keep (fun b => b < lo ∨ hi ≤ b) W0 ((wr.setCell ⟨gi, m * 2, none⟩ (.bool false)).setCell ⟨gi, m * 2 + 1, none⟩ (.string ⟨#[120]⟩)) := (hK4.trans (Keep.setCell _ _ _ (by simp; omega))).trans (Keep.setCell _ _ _ (by simp; omega))
                  clear hcells hty
                  have XhK4 := Lib.hid hK4
                  have XhS4 := Lib.hid hS4
                  have XhS5 := Lib.hid hS5
                  have XhK5 := Lib.hid hK5
                  clear hK4 hS4 hS5 hK5
                  go_wp2_with fail
                  go_roundw
                  case rel => exact ⟨m + 1, by omega, by go_num, XhK5.out, XhS5.out⟩
                  case measure => simp [intOf]; omega
                · obtain rfl : m = n1 := by omega
                  have hlt70 : ¬ (m : Int) < m := by omega
                  obtain ⟨g', hg', -, -, hgl', q2', hall⟩ := Xhlit.out wr hS4
                  cases hg'
                  obtain ⟨⟨w0, p0⟩, f0⟩ := hall 0 (by decide)
                  obtain ⟨⟨w1, p1⟩, f1⟩ := hall 1 (by decide)
                  obtain ⟨⟨w2, p2⟩, f2⟩ := hall 2 (by decide)
                  obtain ⟨⟨w3, p3⟩, f3⟩ := hall 3 (by decide)
                  obtain ⟨⟨w4, p4⟩, f4⟩ := hall 4 (by decide)
                  obtain ⟨⟨w5, p5⟩, f5⟩ := hall 5 (by decide)
                  obtain ⟨⟨w6, p6⟩, f6⟩ := hall 6 (by decide)
                  simp only [Nat.add_zero] at p0 f0
                  have hL := hS4.later (show i ≤ i + 1 by omega)
                  have hS5 := ((((((hL.set_lit rfl hlt4 0 (by decide) (.int .i64 0)).set_lit rfl hlt4 1 (by decide) (.string ⟨#[]⟩)).set_lit rfl hlt4 2 (by decide) (.slice none 0 0)).set_lit rfl hlt4 3 (by decide) (.bool false)).set_lit rfl hlt4 4 (by decide) (.string ⟨#[]⟩)).set_lit rfl hlt4 5 (by decide) (.bool false)).set_lit rfl hlt4 6 (by decide) (.string ⟨#[]⟩)
                  simp only [Nat.add_zero] at hS5
                  have hK5 : Keep (fun b => b < lo ∨ hi ≤ b) W0 (((((((wr.setCell ⟨g, i * 7, none⟩ (.int .i64 0)).setCell ⟨g, i * 7 + 1, none⟩ (.string ⟨#[]⟩)).setCell ⟨g, i * 7 + 2, none⟩ (.slice none 0 0)).setCell ⟨g, i * 7 + 3, none⟩ (.bool false)).setCell ⟨g, i * 7 + 4, none⟩ (.string ⟨#[]⟩)).setCell ⟨g, i * 7 + 5, none⟩ (.bool false)).setCell ⟨g, i * 7 + 6, none⟩ (.string ⟨#[]⟩)) :=
                    ((((((hK4.trans (Keep.setCell _ _ _ (by simp; omega))).trans (Keep.setCell _ _ _ (by simp; omega))).trans (Keep.setCell _ _ _ (by simp; omega))).trans (Keep.setCell _ _ _ (by simp; omega))).trans (Keep.setCell _ _ _ (by simp; omega))).trans (Keep.setCell _ _ _ (by simp; omega))).trans (Keep.setCell _ _ _ (by simp; omega))
                  clear hall hL
                  have XhK4 := Lib.hid hK4
                  have XhS4 := Lib.hid hS4
                  have XhS5 := Lib.hid hS5
                  have XhK5 := Lib.hid hK5
                  clear hK4 hS4 hS5 hK5
                  go_wp2_with fail
                  go_roundw
                  case rel => exact ⟨i + 1, by omega, by go_num, XhK5.out, XhS5.out⟩
                  case measure => simp [intOf]; omega
            · obtain rfl : i = bs.length := by omega
              have hlt50 : ¬ (bs.length : Int) < bs.length := by omega
              have XhK3 := Lib.hid hK3
              have XhS3 := Lib.hid hS3
              clear hK3 hS3
              go_wp2_with fail
              refine bodyPost_end (results_none rfl _ _ _) rfl ?_
              exact ⟨rfl, (Xk0.out.mono fun _ _ _ => trivial).trans XhK3.out⟩
end Go.Proofs
