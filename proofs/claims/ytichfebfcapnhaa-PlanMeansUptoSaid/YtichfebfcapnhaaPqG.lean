/- Layer 16 (plan): the search and the list of all orders find the same. Plain law, no program. -/
import Derived.Test.YtichfebfcapnhaaProg
import Derived.Test.YtichfebfcapnhaaPqE
import Derived.Test.YtichfebfcapnhaaPnX
namespace Go.Proofs
open Go.RowKit Go.Ink Go.Flt
set_option linter.unusedVariables false
set_option linter.unusedSimpArgs false

abbrev StO := List ByteArray × List Bool × List StepD
def stO (ls : List LitD) (o : List Int) : Option StO := o.foldl (fun s n => s.bind (plOne ls n)) (some ([], List.replicate ls.length false, []))
theorem stO_snoc (ls : List LitD) (o : List Int) (n : Int) : stO ls (o ++ [n]) = (stO ls o).bind (plOne ls n) := by
  unfold stO
  rw [List.foldl_append]
  rfl
theorem plSt_take (ls : List LitD) (o : List Int) : ∀ k, k ≤ o.length → plSt ls o k = stO ls (o.take k) := by
  intro k
  induction k with
  | zero => intro _; rfl
  | succ k ih =>
    intro hk
    have e : o.getD k default = o[k] := by rw [List.getD_eq_getElem?_getD, List.getElem?_eq_getElem (show k < o.length by omega)]; rfl
    show (plSt ls o k).bind _ = _
    rw [ih (by omega), List.take_add_one, List.getElem?_eq_getElem (show k < o.length by omega), e]
    exact (stO_snoc ls _ _).symm
theorem planned_st (ls : List LitD) (o : List Int) (h : o.length = ls.length) : plannedP ls o = (stO ls o).map (·.2.2) := by
  unfold plannedP
  rw [if_pos h, plSt_take ls o _ (Nat.le_refl _), List.take_length]
/-- what a state that was reached is -/
structure StIs (ls : List LitD) (o : List Int) (s : StO) : Prop where
  known : s.1 = knownS s.2.2
  taken : s.2.1.length = ls.length ∧ ∀ i : Nat, i < ls.length → s.2.1.getD i true = o.contains (i : Int)
  len : s.2.2.length = o.length
  low : ∀ x, x ∈ o → 0 ≤ x ∧ x < (ls.length : Int)
theorem stO_is {ls : List LitD} (k : Nat) : ∀ (o : List Int) (s : StO), o.length = k → stO ls o = some s → StIs ls o s := by
  induction k with
  | zero =>
    intro o s hl h
    obtain rfl := List.eq_nil_of_length_eq_zero hl
    cases h
    refine ⟨rfl, ⟨by simp, fun i hi => ?_⟩, rfl, fun x hx => by cases hx⟩
    simp only
    rw [List.getD_eq_getElem?_getD, List.getElem?_replicate, if_pos hi]
    rfl
  | succ k ih =>
    intro o s hl h
    obtain ⟨o', n, rfl⟩ : ∃ o' n, o = o' ++ [n] := by
      have hne : o ≠ [] := fun e => by subst e; cases hl
      exact ⟨o.dropLast, o.getLast hne, (List.dropLast_concat_getLast hne).symm⟩
    rw [List.length_append, List.length_singleton] at hl
    rw [stO_snoc] at h
    obtain ⟨t, ht, hs⟩ := Option.bind_eq_some_iff.1 h
    have hI := ih o' t (by omega) ht
    obtain ⟨g1, g2, g3, g4, rfl⟩ := plOne_some hs
    refine ⟨?_, ⟨by simp only [List.length_set]; exact hI.taken.1, fun i hi => ?_⟩, by simp only [List.length_append, List.length_singleton]; rw [hI.len], fun x hx => ?_⟩
    · simp only
      rw [knownS_add, ← hI.known, learn_step]
    · simp only
      rw [contains_snoc, ← hI.taken.2 i hi, List.getD_eq_getElem?_getD, List.getElem?_set, List.getD_eq_getElem?_getD]
      by_cases hn : n.toNat = i
      · have : n = (i : Int) := by omega
        rw [if_pos hn, if_pos (by rw [hI.taken.1]; omega), this]
        simp
      · have : (n == (i : Int)) = false := by rw [beq_eq_false_iff_ne]; omega
        rw [if_neg hn, this, Bool.or_false]
    · rcases List.mem_append.1 hx with hx | hx
      · exact hI.low x hx
      · simp only [List.mem_singleton] at hx
        subst hx
        exact ⟨g1, g2⟩
/-- all that begin so -/
def fromO (n : Nat) : Nat → List Int → List (List Int)
  | 0, o => [o]
  | m + 1, o => (extO o n).flatMap (fromO n m)
theorem from_lvl (n : Nat) : ∀ m k, (lvlO n k).flatMap (fromO n m) = lvlO n (k + m) := by
  intro m
  induction m with
  | zero => intro k; simp [fromO]
  | succ m ih =>
    intro k
    have : (lvlO n k).flatMap (fromO n (m + 1)) = (lvlO n (k + 1)).flatMap (fromO n m) := by
      show (lvlO n k).flatMap (fun o => (extO o n).flatMap (fromO n m)) = ((lvlO n k).flatMap fun o => extO o n).flatMap (fromO n m)
      rw [List.flatMap_assoc]
    rw [this, ih (k + 1)]
    congr 1
    omega
theorem from_none {ls : List LitD} {n : Nat} (m : Nat) : ∀ o, stO ls o = none → ∀ x, x ∈ fromO n m o → stO ls x = none := by
  induction m with
  | zero => intro o h x hx; simp only [fromO, List.mem_singleton] at hx; subst hx; exact h
  | succ m ih =>
    intro o h x hx
    obtain ⟨p, hp, hx⟩ := List.mem_flatMap.1 hx
    unfold extO at hp
    obtain ⟨i, -, rfl⟩ := List.mem_map.1 hp
    exact ih _ (by rw [stO_snoc, h]; rfl) x hx
theorem from_len {n : Nat} (m : Nat) : ∀ o x, x ∈ fromO n m o → x.length = o.length + m := by
  induction m with
  | zero => intro o x hx; simp only [fromO, List.mem_singleton] at hx; subst hx; rfl
  | succ m ih =>
    intro o x hx
    obtain ⟨p, hp, hx⟩ := List.mem_flatMap.1 hx
    unfold extO at hp
    obtain ⟨i, -, rfl⟩ := List.mem_map.1 hp
    rw [ih _ x hx, List.length_append, List.length_singleton]
    omega
theorem rowAt_snoc (ls : List LitD) (l : List SizeD) (ss : List StepD) (x : StepD) : ∀ k, k ≤ ss.length → rowAt ls l (ss ++ [x]) k = rowAt ls l ss k := by
  intro k
  induction k with
  | zero => intro _; rfl
  | succ k ih =>
    intro hk
    have e : (ss ++ [x]).getD k default = ss.getD k default := by rw [List.getD_eq_getElem?_getD, List.getD_eq_getElem?_getD, List.getElem?_append_left (by omega)]
    show behindD (rowAt ls l (ss ++ [x]) k) (ls.getD ((ss ++ [x]).getD k default).lit.toNat default) ((ss ++ [x]).getD k default).bound l = behindD (rowAt ls l ss k) (ls.getD (ss.getD k default).lit.toNat default) (ss.getD k default).bound l
    rw [ih (by omega), e]
theorem rowAt_last (ls : List LitD) (l : List SizeD) (ss : List StepD) (x : StepD) : rowAt ls l (ss ++ [x]) (ss.length + 1) = behindD (rowAt ls l ss ss.length) (ls.getD x.lit.toNat default) x.bound l := by
  have e : (ss ++ [x]).getD ss.length default = x := by rw [List.getD_eq_getElem?_getD, List.getElem?_append_right (Nat.le_refl _)]; simp
  show behindD (rowAt ls l (ss ++ [x]) ss.length) (ls.getD ((ss ++ [x]).getD ss.length default).lit.toNat default) ((ss ++ [x]).getD ss.length default).bound l = _
  rw [rowAt_snoc _ _ _ _ _ (Nat.le_refl _), e]
theorem costS_snoc (ls : List LitD) (l : List SizeD) (ss : List StepD) (x : StepD) : costS ls l (ss ++ [x]) = fadd (costS ls l ss) (behindD (rowAt ls l ss ss.length) (ls.getD x.lit.toNat default) x.bound l) := by
  unfold costS
  have e1 : rowsL ls l (ss ++ [x]) ss.length = rowsL ls l ss ss.length := by
    unfold rowsL
    refine List.map_congr_left fun i hi => ?_
    have := List.mem_range.1 hi
    exact rowAt_snoc ls l ss x (i + 1) (by omega)
  rw [List.length_append, List.length_singleton, rowsL_succ, e1, rowAt_last]
  unfold sumD
  rw [List.foldl_append]
  rfl
theorem cost_up {ls : List LitD} {l : List SizeD} (hU : usableB l = true) {n : Nat} (m : Nat) : ∀ o s, stO ls o = some s → o.length + m ≤ 6 → ∀ x sx, x ∈ fromO n m o → stO ls x = some sx → costS ls l s.2.2 ≤ costS ls l sx.2.2 := by
  induction m with
  | zero =>
    intro o s h _ x sx hx hsx
    simp only [fromO, List.mem_singleton] at hx
    subst hx
    rw [h] at hsx
    cases hsx
    exact Nat.le_refl _
  | succ m ih =>
    intro o s h h6 x sx hx hsx
    obtain ⟨p, hp, hx⟩ := List.mem_flatMap.1 hx
    unfold extO at hp
    obtain ⟨i, -, rfl⟩ := List.mem_map.1 hp
    cases hst : stO ls (o ++ [(i : Int)]) with
    | none => rw [from_none m _ hst x hx] at hsx; cases hsx
    | some t =>
      have h1 := ih _ t hst (by rw [List.length_append, List.length_singleton]; omega) x sx hx hsx
      refine Nat.le_trans ?_ h1
      have hl := (stO_is _ o s rfl h).len
      rw [stO_snoc, h] at hst
      obtain ⟨-, -, -, -, rfl⟩ := plOne_some hst
      simp only
      rw [costS_snoc]
      exact (le_fadd (costS_fin hU (by omega)) (Nat.lt_of_le_of_lt (behind_le (rowAt_le hU _) _ _ hU) (by decide))).1
theorem fold_keep {ls : List LitD} {l : List SizeD} {best : BestD} (os : List (List Int)) (h : ∀ x, x ∈ os → tryO ls l best x = best) : os.foldl (tryO ls l) best = best := by
  induction os with
  | nil => rfl
  | cons o os ih =>
    show os.foldl _ (tryO ls l best o) = best
    rw [h o (List.mem_cons_self ..)]
    exact ih fun x hx => h x (List.mem_cons_of_mem _ hx)
/-- the search goes through all that begin so -/
theorem dfs_all {ls : List LitD} {l : List SizeD} (hU : usableB l = true) (h6 : ls.length ≤ 6) (m : Nat) : ∀ (o : List Int) (s : StO) (best : BestD), stO ls o = some s → o.length + m = ls.length →
    dfs ls l m s.2.1 (rowAt ls l s.2.2 s.2.2.length) (costS ls l s.2.2) s.2.2 best = (fromO ls.length m o).foldl (tryO ls l) best := by
  induction m with
  | zero =>
    intro o s best h hl
    show updB best _ _ = tryO ls l best o
    unfold tryO
    rw [planned_st ls o (by omega), h]
    rfl
  | succ m ih =>
    intro o s best h hl
    have hI := stO_is _ o s rfl h
    show dfsTo ls l m s.2.1 _ _ s.2.2 best ls.length = ((extO o ls.length).flatMap (fromO ls.length m)).foldl _ best
    have : ∀ k, k ≤ ls.length → dfsTo ls l m s.2.1 (rowAt ls l s.2.2 s.2.2.length) (costS ls l s.2.2) s.2.2 best k = ((extO o k).flatMap (fromO ls.length m)).foldl (tryO ls l) best := by
      intro k
      induction k with
      | zero => intro _; rfl
      | succ k ihk =>
        intro hk
        rw [dfsTo_succ, ihk (by omega), extO_succ, List.flatMap_append, List.foldl_append]
        generalize ((extO o k).flatMap (fromO ls.length m)).foldl (tryO ls l) best = b
        unfold visit
        rw [hI.taken.2 k (by omega), ← hI.known]
        by_cases hc : o.contains (k : Int) = true
        · rw [hc, Bool.true_or, if_pos rfl, if_pos rfl]; rfl
        · have hc : o.contains (k : Int) = false := by simpa using hc
          rw [hc, Bool.false_or]
          simp only [Bool.false_eq_true, if_false, List.flatMap_cons, List.flatMap_nil, List.append_nil]
          have hst := stO_snoc ls o (k : Int)
          rw [h] at hst
          simp only [Option.bind_some] at hst
          have hlen : ∀ x, x ∈ fromO ls.length m (o ++ [(k : Int)]) → x.length = ls.length := fun x hx => by
            rw [from_len m _ x hx, List.length_append, List.length_singleton]; omega
          cases hrd : readyP s.1 (ls.getD k default) with
          | false =>
            have hnone : stO ls (o ++ [(k : Int)]) = none := by
              rw [hst]
              unfold plOne
              rw [if_neg (fun h => by rw [Int.toNat_natCast, hrd] at h; exact absurd h.2.2.2 (by decide))]
            simp only [Bool.not_false, if_true]
            refine (fold_keep _ fun x hx => ?_).symm
            unfold tryO
            rw [planned_st ls x (hlen x hx), from_none m _ hnone x hx]
            rfl
          | true =>
            have hsome : stO ls (o ++ [(k : Int)]) = some (s.1 ++ (stepP s.1 (ls.getD k default) k).new, s.2.1.set k true, s.2.2 ++ [stepP s.1 (ls.getD k default) k]) := by
              rw [hst]
              unfold plOne
              rw [Int.toNat_natCast, if_pos ⟨by omega, by omega, by rw [hI.taken.2 k (by omega), hc], hrd⟩]
            simp only [Bool.not_true, Bool.false_eq_true, if_false]
            have hrow : behindD (rowAt ls l s.2.2 s.2.2.length) (ls.getD k default) (stepP s.1 (ls.getD k default) k).bound l = rowAt ls l (s.2.2 ++ [stepP s.1 (ls.getD k default) k]) (s.2.2 ++ [stepP s.1 (ls.getD k default) k]).length := by
              rw [List.length_append, List.length_singleton, rowAt_last, step_lit, Int.toNat_natCast]
            have hcost : fadd (costS ls l s.2.2) (behindD (rowAt ls l s.2.2 s.2.2.length) (ls.getD k default) (stepP s.1 (ls.getD k default) k).bound l) = costS ls l (s.2.2 ++ [stepP s.1 (ls.getD k default) k]) := by
              rw [costS_snoc, step_lit, Int.toNat_natCast]
            rw [hcost]
            cases hpr : pruneB b (costS ls l (s.2.2 ++ [stepP s.1 (ls.getD k default) k])) with
            | false =>
              simp only [Bool.false_eq_true, if_false]
              rw [hrow]
              exact ih (o ++ [(k : Int)]) (s.1 ++ (stepP s.1 (ls.getD k default) k).new, s.2.1.set k true, s.2.2 ++ [stepP s.1 (ls.getD k default) k]) b hsome (by rw [List.length_append, List.length_singleton]; omega)
            | true =>
              simp only [if_true]
              refine (fold_keep _ fun x hx => ?_).symm
              unfold tryO
              rw [planned_st ls x (hlen x hx)]
              cases hsx : stO ls x with
              | none => rfl
              | some sx =>
                have hup := cost_up hU m _ _ hsome (by rw [List.length_append, List.length_singleton]; omega) x sx hx hsx
                simp only [Option.map_some]
                unfold pruneB at hpr
                unfold updB
                cases b with
                | none => cases hpr
                | some p =>
                  obtain ⟨bc, bs⟩ := p
                  simp only at hpr hup ⊢
                  have := of_decide_eq_true hpr
                  rw [if_neg (by omega)]
    exact this _ (Nat.le_refl _)
theorem best_same {r : RuleD} {l : List SizeD} (hU : usableB l = true) (h6 : r.body.length ≤ 6) : dfs r.body l r.body.length (List.replicate r.body.length false) 4607182418800017408 0 [] none = refB r l := by
  have h := dfs_all (ls := r.body) hU h6 r.body.length [] ([], List.replicate r.body.length false, []) none rfl (by simp)
  have hl := from_lvl r.body.length r.body.length 0
  simp only [lvlO, List.flatMap_cons, List.flatMap_nil, List.append_nil, Nat.zero_add] at hl
  unfold refB refTo
  rw [← hl]
  exact h
end Go.Proofs
