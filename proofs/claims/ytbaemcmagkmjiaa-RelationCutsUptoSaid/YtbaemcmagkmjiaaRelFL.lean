/- Layer 4, the plain law of RelationCuts. -/
import Derived.Test.YtbaemcmagkmjiaaProg
import Derived.Test.YtbaemcmagkmjiaaRelT
import Derived.Test.YtbaemcmagkmjiaaDistL
namespace Go.Proofs
open Go.RowKit Go.Ink
set_option linter.unusedVariables false
set_option linter.unusedSimpArgs false

/-- the places of an element -/
def hits (L : List (List Int)) (key : List Int) : List Nat := (List.range L.length).filter fun i => decide (L[i]? = some key)
theorem match_hits {n : Nat} {ts : List (List Int)} {cols key : List Int} (hn : n ≤ 16) (hts : ∀ t ∈ ts, t.length = n) (hrow : rowD n cols = true) (hk : key.length = cols.length) (lo hi : Int) :
    matchD n ts cols key lo hi = (hits (ts.map fun t => cutL t cols) key).filter (inLH lo hi) := by
  rw [match_idx hn hts hrow hk]
  congr 1
  unfold idx hits
  rw [List.length_map]
  refine List.filter_congr fun i hi => ?_
  rw [List.mem_range] at hi
  have h1 : (ts.map fun t => cutL t cols)[i]? = some (cutL (ts.getD i []) cols) := by
    rw [List.getElem?_map, List.getElem?_eq_getElem hi]
    simp [List.getD, List.getElem?_eq_getElem hi]
  rw [h1]
  congr 1
  unfold cutK
  refine propext ⟨fun h => by rw [pad_inj h (by rw [cutL_len, hk])], fun h => by injection h with h; rw [h]⟩
theorem hits_lt {L : List (List Int)} {key : List Int} {i : Nat} (h : i ∈ hits L key) : i < L.length := by
  unfold hits at h
  rw [List.mem_filter, List.mem_range] at h
  exact h.1
theorem hits_len (L : List (List Int)) (key : List Int) : (hits L key).length = (L.filter fun y => decide (y = key)).length := count_places L key
theorem hits_all (L : List (List Int)) (key : List Int) (n : Int) (hn : n = L.length) : ((hits L key).filter (inLH 0 n)).length = (L.filter fun y => decide (y = key)).length := by
  rw [← hits_len, List.filter_eq_self.2]
  intro i hi
  have := hits_lt hi
  unfold inLH
  simp
  omega
theorem hits_cut (L : List (List Int)) (key : List Int) (c d n : Int) (hn : n = L.length) (hd : d = max 0 c) : ((hits L key).filter (inLH 0 c)).length + ((hits L key).filter (inLH d n)).length = (L.filter fun y => decide (y = key)).length := by
  rw [← hits_len, ← filter_or _ (inLH 0 c) (inLH d n) (fun i h => by
    unfold inLH at h ⊢
    simp at h ⊢
    omega)]
  congr 1
  refine List.filter_eq_self.2 fun i hi => ?_
  have := hits_lt hi
  unfold inLH
  simp
  omega
theorem hits_ahead {L : List (List Int)} {key : List Int} {k : Nat} (hk : k ≤ L.length) : ((hits L key).filter (inLH 0 k)).length = 0 ↔ key ∉ L.take k := by
  rw [List.length_eq_zero_iff, List.filter_eq_nil_iff]
  constructor
  · intro h hm
    obtain ⟨i, hi⟩ := List.mem_iff_getElem?.1 hm
    have hik : i < k := by
      have := (List.getElem?_eq_some_iff.1 hi).1
      rw [List.length_take] at this
      omega
    rw [List.getElem?_take_of_lt hik] at hi
    refine h i ?_ ?_
    · unfold hits
      rw [List.mem_filter, List.mem_range]
      exact ⟨by omega, by simpa using hi⟩
    · unfold inLH; simp; omega
  · intro h i hi hc
    unfold inLH at hc
    simp at hc
    unfold hits at hi
    rw [List.mem_filter, List.mem_range] at hi
    have h2 : L[i]? = some key := by simpa using hi.2
    exact h (List.mem_iff_getElem?.2 ⟨i, by rw [List.getElem?_take_of_lt (by omega)]; exact h2⟩)
theorem hits_pos {L : List (List Int)} {key : List Int} (h : key ∈ L) : 1 ≤ (L.filter fun y => decide (y = key)).length := by
  have : key ∈ L.filter fun y => decide (y = key) := List.mem_filter.2 ⟨h, by simp⟩
  exact List.length_pos_of_mem this

theorem cut_less (t cols : List Int) : cutL t cols.dropLast = (cutL t cols).dropLast := by unfold cutL; rw [List.map_dropLast]
theorem rowD_less {n : Nat} {cols : List Int} (h : rowD n cols = true) : rowD n cols.dropLast = true := by
  refine rowD_step fun i hi => ?_
  have hl : cols.dropLast.length = cols.length - 1 := List.length_dropLast
  have h1 : okAt n cols i = true := List.all_eq_true.1 h i (by simp; omega)
  have e : ∀ j, j < cols.dropLast.length → cols.dropLast.getD j 0 = cols.getD j 0 := fun j hj => by
    simp only [List.getD, List.getElem?_dropLast]
    rw [if_pos (by omega)]
  unfold okAt at h1 ⊢
  rw [e i hi]
  by_cases h0 : i = 0
  · subst h0; simpa using h1
  · rw [e (i - 1) (by omega)]; exact h1
theorem few_all (ts : List (List Int)) (cols : List Int) : (dd (ts.map fun t => cutL t cols.dropLast)).length ≤ (dd (ts.map fun t => cutL t cols)).length := by
  have : (ts.map fun t => cutL t cols.dropLast) = (ts.map fun t => cutL t cols).map List.dropLast := by
    rw [List.map_map]
    exact List.map_congr_left fun t _ => cut_less t cols
  rw [this]
  exact dd_map_le _ _
end Go.Proofs
