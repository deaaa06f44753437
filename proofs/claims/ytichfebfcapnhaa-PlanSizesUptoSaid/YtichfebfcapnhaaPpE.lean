/- Layer 16 (plan): sizes that are written over: what stays of their memory's form. -/
import Derived.Test.YtichfebfcapnhaaProg
import Derived.Test.YtichfebfcapnhaaPpA
namespace Go.Proofs
open Go.RowKit Go.Ink
set_option linter.unusedVariables false
set_option linter.unusedSimpArgs false

/-- a row of at least l ints -/
def HasInts (w : World) (v : Value) (lo hi l : Nat) : Prop := ∃ a c, v = .slice a l c ∧ (0 < l → ∃ g cs, a = some ⟨g, 0, none⟩ ∧ lo ≤ g ∧ g < hi ∧ w.heap[g]? = some (.cells cs 3 (0, 0)) ∧ l ≤ cs.size)
theorem HasInts.set {w : World} {v : Value} {lo hi l : Nat} (h : HasInts w v lo hi l) (b j : Nat) (u : Value) : HasInts (w.setCell ⟨b, j, none⟩ u) v lo hi l := by
  obtain ⟨a, c, rfl, h⟩ := h
  refine ⟨a, c, rfl, fun hl => ?_⟩
  obtain ⟨g, cs, ha, h1, h2, hg, hs⟩ := h hl
  by_cases hb : g = b
  · subst hb
    exact ⟨g, _, ha, h1, h2, set_at j u hg, by simpa using hs⟩
  · exact ⟨g, cs, ha, h1, h2, (show Keep (fun b' => b' ≠ b) w _ from Keep.setCell _ _ _ (by simp)).heap hg hb, hs⟩
theorem own_hasInts {base : Nat} {w : World} {v : Value} {l : Nat} {xs : List Int} (h : w.ownsRow base 3 1 v l (xs.map (.int .i64))) : HasInts w v base w.heap.size l := by
  rcases h.2 with ⟨rfl, h0⟩ | ⟨g, cap, cur, rfl, hb, hg, hnc, hcm, hcs, _⟩
  · subst h0; exact ⟨none, 0, rfl, fun h => by omega⟩
  · exact ⟨_, cap, rfl, fun _ => ⟨g, cur, rfl, hb, heap_lt hg, hg, by omega⟩⟩
/-- a row of sizes whose numbers may be anything -/
def Loose (w : World) (v : Value) (lo hi : Nat) (dvs : List (Value × Nat)) : Prop :=
  ∃ a c, v = .slice a dvs.length c ∧ ((0 < dvs.length → ∃ g cs, a = some ⟨g, 0, none⟩ ∧ lo ≤ g ∧ g < hi ∧ w.heap[g]? = some (.cells cs 63 (0, 0)) ∧ dvs.length * 3 ≤ cs.size ∧ ∀ i d, dvs[i]? = some d → cs[i * 3 + 2]? = some d.1) ∧ ∀ d, d ∈ dvs → HasInts w d.1 lo hi d.2)
theorem Loose.set_row {w : World} {n c lo hi : Nat} {dvs : List (Value × Nat)} {g : Nat} (h : Loose w (.slice (some ⟨g, 0, none⟩) n c) lo hi dvs) (i : Nat) (u : Value) : Loose (w.setCell ⟨g, i * 3 + 1, none⟩ u) (.slice (some ⟨g, 0, none⟩) n c) lo hi dvs := by
  obtain ⟨a, c', hv, h1, h2⟩ := h
  refine ⟨a, c', hv, fun hl => ?_, fun d hd => (h2 d hd).set _ _ _⟩
  obtain ⟨g', cs, rfl, l1, l2, hg, hs, hc⟩ := h1 hl
  cases hv
  refine ⟨g, _, rfl, l1, l2, set_at _ u hg, by simpa using hs, fun k d hk => ?_⟩
  rw [Array.getElem?_setIfInBounds_ne (by omega)]
  exact hc k d hk
theorem Loose.set_int {w : World} {v : Value} {lo hi : Nat} {dvs : List (Value × Nat)} (h : Loose w v lo hi dvs) {b : Nat} {cs : Array Value} (hb : w.heap[b]? = some (.cells cs 3 (0, 0))) (j : Nat) (u : Value) : Loose (w.setCell ⟨b, j, none⟩ u) v lo hi dvs := by
  obtain ⟨a, c', hv, h1, h2⟩ := h
  refine ⟨a, c', hv, fun hl => ?_, fun d hd => (h2 d hd).set _ _ _⟩
  obtain ⟨g', cs', ha, l1, l2, hg, hs, hc⟩ := h1 hl
  have hne : g' ≠ b := by
    rintro rfl
    rw [hg] at hb
    have := Option.some.inj hb
    injection this with _ ht _
    exact absurd ht (by decide)
  exact ⟨g', cs', ha, l1, l2, (show Keep (fun b' => b' ≠ b) w _ from Keep.setCell _ _ _ (by simp)).heap hg hne, hs, hc⟩
theorem SizesOwn.loose {base : Nat} {w : World} {v : Value} {ss : List SizeD} (h : SizesOwn base w v ss) : ∃ dvs : List (Value × Nat), dvs.length = ss.length ∧ (∀ d, d ∈ dvs → ∃ s, s ∈ ss ∧ d.2 = s.dist.length) ∧ Loose w v base w.heap.size dvs := by
  obtain ⟨qs, rfl, h2, h3⟩ := h
  refine ⟨qs.map fun q => (q.2, q.1.dist.length), by simp, fun d hd => by
    obtain ⟨q, hq, rfl⟩ := List.mem_map.1 hd
    exact ⟨q.1, List.mem_map.2 ⟨q, hq, rfl⟩, rfl⟩, ?_⟩
  rw [List.length_map] at h2
  have hi : ∀ d, d ∈ qs.map (fun q => (q.2, q.1.dist.length)) → HasInts w d.1 base w.heap.size d.2 := fun d hd => by
    obtain ⟨q, hq, rfl⟩ := List.mem_map.1 hd
    exact own_hasInts (h3 q hq)
  rcases h2.2 with ⟨rfl, h0⟩ | ⟨g, cap, cur, rfl, hb, hg, hnc, hcm, hcs, ht⟩
  · exact ⟨none, 0, by rw [List.length_map, h0], fun h => by rw [List.length_map] at h; omega, hi⟩
  · refine ⟨_, cap, by rw [List.length_map], fun _ => ⟨g, cur, rfl, hb, heap_lt hg, hg, by rw [List.length_map]; omega, fun i d hd => ?_⟩, hi⟩
    rw [List.getElem?_map] at hd
    obtain ⟨q, hq, rfl⟩ := Option.map_eq_some_iff.1 hd
    have hlt : i < qs.length := (List.getElem?_eq_some_iff.1 hq).1
    have := flatMap_at sizeC 3 (fun _ => rfl) qs i 2 q hq (by decide)
    rw [← ht, List.getElem?_take, if_pos (by omega), Array.getElem?_toList] at this
    exact this
end Go.Proofs
