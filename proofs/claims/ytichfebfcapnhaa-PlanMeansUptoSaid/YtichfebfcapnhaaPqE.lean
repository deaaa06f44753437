/- Layer 16 (plan): the reference's least cost, as plain data. No walk. -/
import Derived.Test.YtichfebfcapnhaaProg
import Derived.Test.YtichfebfcapnhaaPqD
import Derived.Test.YtichfebfcapnhaaPpL
namespace Go.Proofs
open Go.RowKit Go.Ink Go.Flt
set_option linter.unusedVariables false
set_option linter.unusedSimpArgs false

def costS (ls : List LitD) (l : List SizeD) (ss : List StepD) : Nat := sumD (rowsL ls l ss ss.length)
def tryO (ls : List LitD) (l : List SizeD) (best : BestD) (o : List Int) : BestD := match plannedP ls o with
  | none => best
  | some ss => updB best (costS ls l ss) ss
def refTo (ls : List LitD) (l : List SizeD) (os : List (List Int)) : BestD := os.foldl (tryO ls l) none
def refB (r : RuleD) (l : List SizeD) : BestD := refTo r.body l (lvlO r.body.length r.body.length)
def lst0 (best : BestD) : Nat := match best with
  | none => 0
  | some (b, _) => b
def planB (r : RuleD) (best : BestD) : PlanD := match best with
  | none => noPlan
  | some (_, s) => ⟨r, s⟩
def refLeastD (r : RuleD) (l : List SizeD) : PlanD × Nat × Int :=
  if askedD r l (decide (6 < r.body.length)) ≠ 0 then (noPlan, 0, askedD r l (decide (6 < r.body.length))) else (planB r (refB r l), lst0 (refB r l), 0)
theorem refTo_snoc (ls : List LitD) (l : List SizeD) (os : List (List Int)) {k : Nat} {o : List Int} (h : os[k]? = some o) : refTo ls l (os.take (k + 1)) = tryO ls l (refTo ls l (os.take k)) o := by
  unfold refTo
  rw [List.take_add_one, h, List.foldl_append]
  rfl
theorem sum_le_most (l : List Nat) (hc : ∀ x, x ∈ l → x ≤ 9094988921128908188) (hl : l.length ≤ 256) : ∀ k, k ≤ l.length → sumD (l.take k) ≤ most k := by
  intro k
  induction k with
  | zero => intro _; exact Nat.zero_le _
  | succ k ih =>
    intro hk
    rw [sumD_snoc l (List.getElem?_eq_getElem (by omega))]
    exact sum_most (by omega) (ih (by omega)) (hc _ (List.getElem_mem _))
theorem costS_fin {ls : List LitD} {l : List SizeD} (hU : usableB l = true) {ss : List StepD} (hl : ss.length ≤ 256) : costS ls l ss < 9218868437227405312 := by
  unfold costS
  have hlen : (rowsL ls l ss ss.length).length = ss.length := by unfold rowsL; rw [List.length_map, List.length_range]
  have h := sum_le_most (rowsL ls l ss ss.length) (fun x hx => by
    unfold rowsL at hx
    obtain ⟨i, -, rfl⟩ := List.mem_map.1 hx
    exact rowAt_le hU (i + 1)) (by omega) ss.length (by omega)
  rw [List.take_of_length_le (by omega)] at h
  have := most_fin hl
  omega
theorem planned_len {ls : List LitD} {o : List Int} {ss : List StepD} (h : plannedP ls o = some ss) : ss.length = ls.length := by
  have h0 := h
  unfold plannedP at h
  split at h
  · rename_i hl
    obtain ⟨s, hs, rfl⟩ := Option.map_eq_some_iff.1 h
    have : ∀ k s, plSt ls o k = some s → s.2.2.length = k := by
      intro k
      induction k with
      | zero => intro s h; cases h; rfl
      | succ k ih =>
        intro s h
        obtain ⟨t, ht, hs⟩ := Option.bind_eq_some_iff.1 h
        obtain ⟨-, -, -, -, rfl⟩ := plOne_some hs
        simp only [List.length_append, List.length_singleton, ih t ht]
    rw [this _ _ hs, hl]
  · cases h
theorem refTo_fine {ls : List LitD} {l : List SizeD} (hU : usableB l = true) (h6 : ls.length ≤ 6) (os : List (List Int)) : ∀ best, FineB best → FineB (os.foldl (tryO ls l) best) := by
  induction os with
  | nil => intro best h; exact h
  | cons o os ih =>
    intro best h
    refine ih _ ?_
    unfold tryO
    split
    · exact h
    · rename_i ss hss
      exact updB_fine h (costS_fin hU (by have := planned_len hss; omega)) ss
theorem planned_right {r : RuleD} (hF : formedB r = true) {o : List Int} {ss : List StepD} (h : plannedP r.body o = some ss) : rightB ⟨r, ss⟩ = true := by
  rw [right_same, hF, Bool.true_and, decide_eq_true_eq]
  show plannedP r.body (ss.map StepD.lit) = some ss
  have hlit : ss.map StepD.lit = o := by
    have h0 := h
    unfold plannedP at h
    split at h
    · rename_i hl
      obtain ⟨s, hs, rfl⟩ := Option.map_eq_some_iff.1 h
      have : ∀ k s, k ≤ o.length → plSt r.body o k = some s → s.2.2.map StepD.lit = o.take k := by
        intro k
        induction k with
        | zero => intro s _ h; cases h; rfl
        | succ k ih =>
          intro s hk h
          obtain ⟨t, ht, hs⟩ := Option.bind_eq_some_iff.1 h
          obtain ⟨-, -, -, -, rfl⟩ := plOne_some hs
          simp only [List.map_append, List.map_cons, List.map_nil, ih t (by omega) ht]
          have e : o.getD k default = o[k] := by rw [List.getD_eq_getElem?_getD, List.getElem?_eq_getElem (show k < o.length by omega)]; rfl
          rw [List.take_add_one, List.getElem?_eq_getElem (show k < o.length by omega), ← e]
          have hlit : ∀ K L i, (stepP K L i).lit = i := fun K L i => by unfold stepP; split <;> rfl
          rw [hlit]
          rfl
      have := this _ _ (Nat.le_refl _) hs
      rwa [List.take_length] at this
    · cases h
  rw [hlit]
  exact h
end Go.Proofs
