/- Layer 16 (plan): Least answers what the document's Least answers. Plain law. -/
import Derived.Test.YtichfebfcapnhaaProg
import Derived.Test.YtichfebfcapnhaaPqC
import Derived.Test.YtichfebfcapnhaaPqG
namespace Go.Proofs
open Go.RowKit Go.Ink Go.Flt
set_option linter.unusedVariables false
set_option linter.unusedSimpArgs false

theorem st_lvl {ls : List LitD} (k : Nat) : ∀ (o : List Int) (s : StO), o.length = k → stO ls o = some s → o ∈ lvlO ls.length k := by
  induction k with
  | zero =>
    intro o s hl _
    obtain rfl := List.eq_nil_of_length_eq_zero hl
    exact List.mem_singleton.2 rfl
  | succ k ih =>
    intro o s hl h
    obtain ⟨o', n, rfl⟩ : ∃ o' n, o = o' ++ [n] := by
      have hne : o ≠ [] := fun e => by subst e; cases hl
      exact ⟨o.dropLast, o.getLast hne, (List.dropLast_concat_getLast hne).symm⟩
    rw [List.length_append, List.length_singleton] at hl
    rw [stO_snoc] at h
    obtain ⟨t, ht, hs⟩ := Option.bind_eq_some_iff.1 h
    have hI := stO_is _ o' t rfl ht
    obtain ⟨g1, g2, g3, g4, rfl⟩ := plOne_some hs
    obtain ⟨i, rfl⟩ : ∃ i : Nat, n = i := ⟨n.toNat, by omega⟩
    refine List.mem_flatMap.2 ⟨o', ih o' t (by omega) ht, ?_⟩
    unfold extO
    refine List.mem_map.2 ⟨i, List.mem_filter.2 ⟨List.mem_range.2 (by omega), ?_⟩, rfl⟩
    rw [Int.toNat_natCast, hI.taken.2 i (by omega)] at g3
    rw [g3]; rfl
theorem fold_some {ls : List LitD} {l : List SizeD} (os : List (List Int)) : ∀ best : BestD, best ≠ none → os.foldl (tryO ls l) best ≠ none := by
  induction os with
  | nil => intro b h; exact h
  | cons o os ih =>
    intro b h
    refine ih _ ?_
    unfold tryO
    split
    · exact h
    · unfold updB
      cases b with
      | none => intro e; cases e
      | some p => simp only; split <;> (intro e; cases e)
theorem fold_hit {ls : List LitD} {l : List SizeD} (os : List (List Int)) (x : List Int) (hx : x ∈ os) (hp : plannedP ls x ≠ none) : ∀ best : BestD, os.foldl (tryO ls l) best ≠ none := by
  induction os with
  | nil => cases hx
  | cons o os ih =>
    intro b
    rcases List.mem_cons.1 hx with rfl | hx
    · refine fold_some os _ ?_
      unfold tryO
      cases h : plannedP ls x with
      | none => exact absurd h hp
      | some ss =>
        simp only
        unfold updB
        cases b with
        | none => intro e; cases e
        | some p => simp only; split <;> (intro e; cases e)
    · exact ih hx _
theorem mk_st {r : RuleD} {l : List SizeD} {first : Int} (hU : usableB l = true) (hs : safeP r = true) (hf : badFirst r first = false) (j : Nat) : j ≤ r.body.length → ∃ s : StO, stO r.body ((mkGo r l first j).steps.map StepD.lit) = some s ∧ s.1 = (mkGo r l first j).K ∧ s.2.1 = (mkGo r l first j).taken ∧ s.2.2 = (mkGo r l first j).steps := by
  induction j with
  | zero => intro _; exact ⟨_, rfl, rfl, rfl, rfl⟩
  | succ j ih =>
    intro hj
    obtain ⟨s, h, h1, h2, h3⟩ := ih (by omega)
    obtain ⟨k, hk, hkl, hkt, hkr⟩ := choose_good (sizes := l) hs hf (j := j) (s := mkGo r l first j) (by omega) (mk_ok hU hs hf j (by omega)) (fun e => by subst e; rfl)
    have e : mkGo r l first (j + 1) = stepM r l (k : Int) (mkGo r l first j) := by
      show stepM r l (chooseM r l first j (mkGo r l first j)) (mkGo r l first j) = _
      rw [hk]
    have hrd : readyP s.1 (r.body.getD k default) = true := by
      rw [h1]
      rcases hkr with h | h
      · unfold readyP; rw [decide_eq_true h, Bool.true_or]
      · exact h
    refine ⟨(s.1 ++ (stepP s.1 (r.body.getD k default) k).new, s.2.1.set k true, s.2.2 ++ [stepP s.1 (r.body.getD k default) k]), ?_, ?_, ?_, ?_⟩
    · rw [e]
      unfold stepM
      simp only [List.map_append, List.map_cons, List.map_nil, step_lit]
      rw [stO_snoc, h]
      show plOne r.body (k : Int) s = _
      unfold plOne
      rw [Int.toNat_natCast, if_pos ⟨by omega, by omega, by rw [h2]; exact hkt, hrd⟩]
    · rw [e]
      unfold stepM
      simp only [Int.toNat_natCast]
      rw [← h1, learn_step]
    · rw [e]
      unfold stepM
      simp only [Int.toNat_natCast]
      rw [← h2]
    · rw [e]
      unfold stepM
      simp only [Int.toNat_natCast]
      rw [← h3, ← h1]
/-- Make's order is one of all -/
theorem make_among {r : RuleD} {l : List SizeD} {first : Int} (hU : usableB l = true) (hs : safeP r = true) (hf : badFirst r first = false) :
    (mkGo r l first r.body.length).steps.map StepD.lit ∈ lvlO r.body.length r.body.length ∧ plannedP r.body ((mkGo r l first r.body.length).steps.map StepD.lit) = some (mkGo r l first r.body.length).steps := by
  obtain ⟨s, h, -, -, h3⟩ := mk_st (l := l) hU hs hf r.body.length (Nat.le_refl _)
  have hl : ((mkGo r l first r.body.length).steps.map StepD.lit).length = r.body.length := by
    rw [List.length_map]; exact (mk_ok hU hs hf r.body.length (Nat.le_refl _)).stp
  refine ⟨st_lvl _ _ s hl h, ?_⟩
  rw [planned_st _ _ hl, h, ← h3]; rfl
theorem asked_parts {r : RuleD} {l : List SizeD} {b : Bool} (h : askedD r l b = 0) : formedB r = true ∧ usableB l = true ∧ b = false ∧ safeP r = true := by
  unfold askedD at h
  cases h1 : formedB r <;> cases h2 : usableB l <;> cases h3 : safeP r <;> cases b <;> rw [h1, h2, h3] at h <;> first | exact ⟨rfl, rfl, rfl, rfl⟩ | (exfalso; revert h; decide)
theorem bad_free (r : RuleD) : badFirst r (-1) = false := by
  unfold badFirst
  rw [decide_eq_false (by omega), decide_eq_false (by omega), decide_eq_false (by omega)]
  rfl
theorem best_some {r : RuleD} {l : List SizeD} (hU : usableB l = true) (hs : safeP r = true) : refB r l ≠ none := by
  obtain ⟨h1, h2⟩ := make_among (r := r) (l := l) (first := -1) hU hs (bad_free r)
  exact fold_hit _ _ h1 (by rw [h2]; intro e; cases e) none
theorem least_eq (r : RuleD) (l : List SizeD) : leastD r l = refLeastD r l := by
  unfold leastD refLeastD
  by_cases h6 : 6 < r.body.length
  · have ha : askedD r l true = 2 := by unfold askedD; rw [Bool.or_true, if_pos rfl]
    rw [if_pos h6, decide_eq_true h6, ha, if_pos (by decide)]
  · rw [if_neg h6, decide_eq_false h6]
    by_cases ha : askedD r l false ≠ 0
    · rw [if_pos ha, if_pos ha]
    · rw [if_neg ha, if_neg ha]
      obtain ⟨hF, hU, -, hs⟩ := asked_parts (show askedD r l false = 0 by omega)
      have hb : bestD r l = refB r l := best_same hU (by omega)
      rw [hb]
      have hn := best_some (r := r) hU hs
      cases hc : refB r l with
      | none => exact absurd hc hn
      | some p => rfl
end Go.Proofs
