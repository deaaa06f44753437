/- Plain law: unlike elements of a list, how many there are, how often each comes. No program is named here. -/
import Derived.Test.YtbaemcmagkmjiaaData
namespace Go.Proofs
set_option linter.unusedVariables false
set_option linter.unusedSimpArgs false

variable {α : Type} [DecidableEq α]

/-- the elements of a list, each once, in the order in which they come first -/
def dd (L : List α) : List α := L.foldl (fun acc x => if x ∈ acc then acc else acc ++ [x]) []
theorem dd_snoc (L : List α) (x : α) : dd (L ++ [x]) = if x ∈ dd L then dd L else dd L ++ [x] := by
  unfold dd; rw [List.foldl_append]; rfl
omit [DecidableEq α] in
theorem list_snoc {p : List α → Prop} (h0 : p []) (h1 : ∀ L x, p L → p (L ++ [x])) : ∀ L, p L := by
  have h : ∀ R : List α, p R.reverse := fun R => by
    induction R with
    | nil => exact h0
    | cons x R ih => rw [List.reverse_cons]; exact h1 _ _ ih
  intro L
  have := h L.reverse
  rwa [List.reverse_reverse] at this
theorem mem_dd (L : List α) : ∀ x, x ∈ dd L ↔ x ∈ L := by
  refine list_snoc (p := fun L => ∀ x, x ∈ dd L ↔ x ∈ L) (by simp [dd]) (fun L y ih x => ?_) L
  rw [dd_snoc]
  split
  · rename_i h
    rw [ih, List.mem_append, List.mem_singleton]
    exact ⟨.inl, fun h1 => h1.elim id (fun e => by rw [e, ← ih]; exact h)⟩
  · rw [List.mem_append, List.mem_append, ih]
theorem nodup_dd (L : List α) : (dd L).Nodup := by
  refine list_snoc (p := fun L => (dd L).Nodup) (by simp [dd]) (fun L y ih => ?_) L
  rw [dd_snoc]
  split
  · exact ih
  · rename_i h
    rw [List.nodup_append]
    refine ⟨ih, by simp, fun a ha b hb e => ?_⟩
    rw [List.mem_singleton] at hb
    subst hb; subst e
    exact h ha
theorem dd_len (L : List α) : (dd L).length ≤ L.length := by
  refine list_snoc (p := fun L => (dd L).length ≤ L.length) (by simp [dd]) (fun L y ih => ?_) L
  rw [dd_snoc]
  split <;> simp <;> omega
theorem nodup_le : ∀ {M L : List α}, M.Nodup → (∀ x, x ∈ M → x ∈ L) → M.length ≤ L.length
  | [], _, _, _ => by simp
  | x :: M, L, hn, hs => by
    rw [List.nodup_cons] at hn
    have hx := hs x (by simp)
    have hl : (L.erase x).length + 1 = L.length := by
      rw [List.length_erase_of_mem hx]
      have := List.length_pos_of_mem hx
      omega
    have := nodup_le (M := M) (L := L.erase x) hn.2 (fun y hy => by
      have hne : y ≠ x := fun e => hn.1 (by rw [← e]; exact hy)
      exact (List.mem_erase_of_ne hne).2 (hs y (by simp [hy])))
    simp only [List.length_cons]
    omega
theorem dd_unique {M L : List α} (hn : M.Nodup) (hm : ∀ x, x ∈ M ↔ x ∈ L) : M.length = (dd L).length :=
  Nat.le_antisymm (nodup_le hn (fun x hx => (mem_dd L x).2 ((hm x).1 hx))) (nodup_le (nodup_dd L) (fun x hx => (hm x).2 ((mem_dd L x).1 hx)))
theorem dd_map_le {β : Type} [DecidableEq β] (L : List α) (f : α → β) : (dd (L.map f)).length ≤ (dd L).length := by
  have := nodup_le (M := dd (L.map f)) (L := (dd L).map f) (nodup_dd _) (fun y hy => by
    obtain ⟨x, hx, rfl⟩ := List.mem_map.1 ((mem_dd _ y).1 hy)
    exact List.mem_map.2 ⟨x, (mem_dd L x).2 hx, rfl⟩)
  simpa using this
theorem dd_pos {L : List α} (h : 0 < L.length) : 0 < (dd L).length := by
  cases L with
  | nil => simp at h
  | cons x L => exact List.length_pos_of_mem ((mem_dd (x :: L) x).2 (by simp))
theorem dd_take {L : List α} {k : Nat} {x : α} (h : L[k]? = some x) : dd (L.take (k + 1)) = if x ∈ L.take k then dd (L.take k) else dd (L.take k) ++ [x] := by
  rw [List.take_add_one, h, Option.toList_some, dd_snoc]
  by_cases hx : x ∈ L.take k
  · rw [if_pos ((mem_dd _ _).2 hx), if_pos hx]
  · rw [if_neg (fun h => hx ((mem_dd _ _).1 h)), if_neg hx]

/-- how many elements of L stand in its first k places, too -/
def seenN (L : List α) (k : Nat) : Nat := (L.filter fun y => decide (y ∈ L.take k)).length
omit [DecidableEq α] in
theorem filter_or (L : List α) (p q : α → Bool) (h : ∀ y, p y = true → q y = false) : (L.filter fun y => p y || q y).length = (L.filter p).length + (L.filter q).length := by
  induction L with
  | nil => rfl
  | cons x L ih =>
    simp only [List.filter_cons]
    cases hp : p x with
    | true => rw [h x hp]; simp [ih]; omega
    | false => cases hq : q x <;> simp [ih] <;> omega
theorem seen_zero (L : List α) : seenN L 0 = 0 := by simp [seenN]
theorem seen_all (L : List α) : seenN L L.length = L.length := by
  unfold seenN
  rw [List.take_length, List.filter_eq_self.2 (fun y hy => by simpa using hy)]
theorem seen_old {L : List α} {k : Nat} {x : α} (h : L[k]? = some x) (hx : x ∈ L.take k) : seenN L (k + 1) = seenN L k := by
  unfold seenN
  congr 1
  refine List.filter_congr fun y _ => ?_
  rw [List.take_add_one, h, Option.toList_some]
  congr 1
  rw [List.mem_append, List.mem_singleton]
  exact propext ⟨fun h1 => h1.elim id (fun e => by rw [e]; exact hx), .inl⟩
theorem seen_new {L : List α} {k : Nat} {x : α} (h : L[k]? = some x) (hx : x ∉ L.take k) : seenN L (k + 1) = seenN L k + (L.filter fun y => decide (y = x)).length := by
  unfold seenN
  rw [← filter_or L _ _ (fun y hy => by
    simp only [decide_eq_true_eq, decide_eq_false_iff_not] at hy ⊢
    intro e; rw [e] at hy; exact hx hy)]
  congr 1
  refine List.filter_congr fun y _ => ?_
  rw [List.take_add_one, h, Option.toList_some]
  simp [List.mem_append]
theorem seen_le (L : List α) (k : Nat) : seenN L k ≤ L.length := List.length_filter_le _ _

/-- counting by places -/
theorem count_places (L : List α) (x : α) : ((List.range L.length).filter fun i => decide (L[i]? = some x)).length = (L.filter fun y => decide (y = x)).length := by
  refine list_snoc (p := fun L => ((List.range L.length).filter fun i => decide (L[i]? = some x)).length = (L.filter fun y => decide (y = x)).length) (by simp) (fun L y ih => ?_) L
  rw [List.length_append, List.length_singleton, List.range_succ, List.filter_append, List.filter_append, List.length_append, List.length_append, ← ih]
  congr 1
  · congr 1
    refine List.filter_congr fun i hi => ?_
    rw [List.mem_range] at hi
    rw [List.getElem?_append_left hi]
  · simp only [List.filter_cons, List.filter_nil]
    by_cases h : y = x <;> simp [h]
end Go.Proofs
