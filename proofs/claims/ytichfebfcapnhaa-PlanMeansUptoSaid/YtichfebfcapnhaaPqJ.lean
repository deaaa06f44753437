/- Layer 16 (plan): what a plan means. Plain law, no program. -/
import Derived.Test.YtichfebfcapnhaaProg
import Derived.Test.YtichfebfcapnhaaPqH
import Derived.Test.YtichfebfcapnhaaFltE
namespace Go.Proofs
open Go.RowKit Go.Ink Go.Flt
set_option linter.unusedVariables false
set_option linter.unusedSimpArgs false

theorem test_le {a : Nat} (h : a ≤ 9094988921128908188) {L : LitD} (hk : L.kind = 2 ∨ L.kind = 3) (b : List Int) (l : List SizeD) : behindD a L b l ≤ a := by
  unfold behindD
  rcases hk with hk | hk
  · rw [if_pos hk]; exact half_le h
  · rw [if_neg (by omega), if_pos hk]; exact tenths_self h
theorem sum_up (l : List Nat) (hc : ∀ x, x ∈ l → x ≤ 9094988921128908188) (hl : l.length ≤ 256) : ∀ d k, k + d ≤ l.length → sumD (l.take k) ≤ sumD (l.take (k + d)) := by
  intro d
  induction d with
  | zero => intro k _; exact Nat.le_refl _
  | succ d ih =>
    intro k hk
    refine Nat.le_trans (ih k (by omega)) ?_
    rw [← Nat.add_assoc, sumD_snoc l (List.getElem?_eq_getElem (show k + d < l.length by omega))]
    exact (le_fadd (Nat.lt_of_le_of_lt (sum_le_most l hc hl _ (by omega)) (most_fin (show k + d ≤ 256 by omega))) (Nat.lt_of_le_of_lt (hc _ (List.getElem_mem _)) (by decide))).1
theorem row_cost {ls : List LitD} {l : List SizeD} (hU : usableB l = true) {ss : List StepD} (hl : ss.length ≤ 256) {i : Nat} (hi : i < ss.length) : rowAt ls l ss (i + 1) ≤ costS ls l ss := by
  have hlen : (rowsL ls l ss ss.length).length = ss.length := by unfold rowsL; rw [List.length_map, List.length_range]
  have hrc : ∀ x, x ∈ rowsL ls l ss ss.length → x ≤ 9094988921128908188 := fun x hx => by
    unfold rowsL at hx
    obtain ⟨i, -, rfl⟩ := List.mem_map.1 hx
    exact rowAt_le hU (i + 1)
  have hx : (rowsL ls l ss ss.length)[i]? = some (rowAt ls l ss (i + 1)) := by
    unfold rowsL
    rw [List.getElem?_map, List.getElem?_range hi]
    rfl
  unfold costS
  generalize rowsL ls l ss ss.length = rl at *
  have h1 := sum_up rl hrc (by omega) (rl.length - (i + 1)) (i + 1) (by omega)
  rw [show i + 1 + (rl.length - (i + 1)) = rl.length by omega, List.take_length, sumD_snoc _ hx] at h1
  have h0 := sum_le_most rl hrc (by omega) i (by omega)
  exact Nat.le_trans (le_fadd (Nat.lt_of_le_of_lt h0 (most_fin (by omega))) (Nat.lt_of_le_of_lt (rowAt_le hU _) (by decide))).2 h1
theorem fold_min {ls : List LitD} {l : List SizeD} (os : List (List Int)) : ∀ best : BestD,
    (∀ b s, best = some (b, s) → ∃ c t, os.foldl (tryO ls l) best = some (c, t) ∧ c ≤ b) ∧ (∀ o ss, o ∈ os → plannedP ls o = some ss → ∃ c t, os.foldl (tryO ls l) best = some (c, t) ∧ c ≤ costS ls l ss) := by
  induction os with
  | nil => intro best; exact ⟨fun b s h => ⟨b, s, h, Nat.le_refl _⟩, fun o ss h => by cases h⟩
  | cons p os ih =>
    intro best
    obtain ⟨i1, i2⟩ := ih (tryO ls l best p)
    have hstep : ∀ b s, best = some (b, s) → ∃ c t, tryO ls l best p = some (c, t) ∧ c ≤ b := by
      intro b s h
      subst h
      unfold tryO
      cases plannedP ls p with
      | none => exact ⟨b, s, rfl, Nat.le_refl _⟩
      | some ss =>
        simp only
        unfold updB
        simp only
        split
        · exact ⟨_, _, rfl, by omega⟩
        · exact ⟨_, _, rfl, Nat.le_refl _⟩
    refine ⟨fun b s h => ?_, fun o ss ho hp => ?_⟩
    · obtain ⟨c, t, h1, h2⟩ := hstep b s h
      obtain ⟨c', t', h3, h4⟩ := i1 c t h1
      exact ⟨c', t', h3, by omega⟩
    · rcases List.mem_cons.1 ho with rfl | ho
      · have : ∃ c t, tryO ls l best o = some (c, t) ∧ c ≤ costS ls l ss := by
          unfold tryO
          rw [hp]
          simp only
          unfold updB
          cases best with
          | none => exact ⟨_, _, rfl, Nat.le_refl _⟩
          | some q =>
            simp only
            split
            · exact ⟨_, _, rfl, Nat.le_refl _⟩
            · exact ⟨_, _, rfl, by omega⟩
        obtain ⟨c, t, h1, h2⟩ := this
        obtain ⟨c', t', h3, h4⟩ := i1 c t h1
        exact ⟨c', t', h3, by omega⟩
      · exact i2 o ss ho hp
theorem refTo_right {r : RuleD} {l : List SizeD} (hF : formedB r = true) (os : List (List Int)) : ∀ best : BestD, (∀ b s, best = some (b, s) → rightB ⟨r, s⟩ = true) → ∀ b s, os.foldl (tryO r.body l) best = some (b, s) → rightB ⟨r, s⟩ = true := by
  induction os with
  | nil => intro best h; exact h
  | cons o os ih =>
    intro best h
    refine ih _ ?_
    unfold tryO
    split
    · exact h
    · rename_i ss hss
      intro b s e
      unfold updB at e
      cases best with
      | none => cases e; exact planned_right hF hss
      | some p =>
        obtain ⟨b0, s0⟩ := p
        simp only at e
        split at e
        · cases e; exact planned_right hF hss
        · cases e; exact h _ _ rfl
theorem mk_first {r : RuleD} {l : List SizeD} {first : Int} (h0 : 0 ≤ first) : ∀ j, ∃ rest, ((mkGo r l first (j + 1)).steps.map StepD.lit) = first :: rest := by
  intro j
  induction j with
  | zero =>
    refine ⟨[], ?_⟩
    show ((stepM r l (chooseM r l first 0 (mkGo r l first 0)) (mkGo r l first 0)).steps.map StepD.lit) = _
    have e : chooseM r l first 0 (mkGo r l first 0) = first := by unfold chooseM; rw [if_neg (by omega)]
    rw [e]
    unfold stepM mkGo
    simp [step_lit]
  | succ j ih =>
    obtain ⟨rest, h⟩ := ih
    refine ⟨rest ++ [chooseM r l first (j + 1) (mkGo r l first (j + 1))], ?_⟩
    show ((stepM r l (chooseM r l first (j + 1) (mkGo r l first (j + 1))) (mkGo r l first (j + 1))).steps.map StepD.lit) = _
    unfold stepM
    simp only [List.map_append, List.map_cons, List.map_nil, step_lit, h, List.cons_append]
/-- what is known of a plan that was made -/
structure MeansD (r : RuleD) (l : List SizeD) (first : Int) (ss : List StepD) : Prop where
  right : rightB ⟨r, ss⟩ = true
  len : ss.length = r.body.length
  use : usableB l = true
  few : r.body.length ≤ 256
  lit : ∀ (i : Nat) (x : StepD), ss[i]? = some x → 0 ≤ x.lit ∧ x.lit < (r.body.length : Int)
  fst : 0 ≤ first → ∃ x, ss[0]? = some x ∧ x.lit = first
  fin : costS r.body l ss < 9218868437227405312
  row : ∀ i, i < ss.length → rowAt r.body l ss (i + 1) ≤ costS r.body l ss
  tst : ∀ (i : Nat) (x : StepD), ss[i]? = some x → (r.body.getD x.lit.toNat default).kind ≠ 1 → rowAt r.body l ss (i + 1) ≤ rowAt r.body l ss i
  least : r.body.length ≤ 6 → ∃ c t, leastD r l = (⟨r, t⟩, c, 0) ∧ rightB ⟨r, t⟩ = true ∧ c ≤ costS r.body l ss
theorem make_means {r : RuleD} {l : List SizeD} {first : Int} (h : askedD r l (badFirst r first) = 0) : MeansD r l first (mkGo r l first r.body.length).steps := by
  obtain ⟨hF, hU, hf, hs⟩ := asked_parts h
  obtain ⟨hin, hp⟩ := make_among (l := l) (first := first) hU hs hf
  have hlen := (mk_ok (sizes := l) (first := first) hU hs hf r.body.length (Nat.le_refl _)).stp
  have hR := planned_right hF hp
  have h256 := (formed_args hF).1
  have hparts := right_parts hR
  have hl256 : (mkGo r l first r.body.length).steps.length ≤ 256 := by omega
  refine ⟨hR, hlen, hU, h256, fun i x hx => ⟨(hparts.2.2 i x hx).1, (hparts.2.2 i x hx).2.1⟩, fun h0 => ?_, costS_fin hU hl256, fun i hi => row_cost hU hl256 hi, fun i x hx hk => ?_, fun h6 => ?_⟩
  · have hpos : 0 < r.body.length := by
      unfold badFirst at hf
      rw [Bool.or_eq_false_iff, Bool.or_eq_false_iff, decide_eq_false_iff_not, decide_eq_false_iff_not] at hf
      omega
    obtain ⟨j, hj⟩ : ∃ j, r.body.length = j + 1 := ⟨r.body.length - 1, by omega⟩
    obtain ⟨rest, he⟩ := mk_first (r := r) (l := l) h0 j
    rw [hj]
    cases hst : (mkGo r l first (j + 1)).steps with
    | nil => rw [hst] at he; cases he
    | cons x xs =>
      rw [hst] at he
      simp only [List.map_cons, List.cons.injEq] at he
      exact ⟨x, rfl, he.1⟩
  · have hlt := hparts.2.2 i x hx
    have hmem : r.body.getD x.lit.toNat default ∈ r.body := by
      rw [List.getD_eq_getElem?_getD, List.getElem?_eq_getElem (show x.lit.toNat < r.body.length by have := hlt.2.1; simp only at this; omega)]
      exact List.getElem_mem _
    have hkd := formed_kind hF hmem
    have e : (mkGo r l first r.body.length).steps.getD i default = x := by rw [List.getD_eq_getElem?_getD, hx]; rfl
    show behindD _ (r.body.getD ((mkGo r l first r.body.length).steps.getD i default).lit.toNat default) ((mkGo r l first r.body.length).steps.getD i default).bound l ≤ _
    rw [e]
    exact test_le (rowAt_le hU i) (by omega) _ _
  · have ha : askedD r l false = 0 := by rw [hf] at h; exact h
    obtain ⟨c, t, h1, h2⟩ := (fold_min (ls := r.body) (l := l) (lvlO r.body.length r.body.length) none).2 _ _ hin hp
    have h3 : refB r l = some (c, t) := h1
    refine ⟨c, t, ?_, refTo_right (l := l) hF _ none (fun _ _ h => by cases h) c t h1, h2⟩
    rw [least_eq]
    unfold refLeastD
    rw [decide_eq_false (show ¬ 6 < r.body.length by omega), ha, if_neg (by simp), h3]
    rfl
end Go.Proofs
