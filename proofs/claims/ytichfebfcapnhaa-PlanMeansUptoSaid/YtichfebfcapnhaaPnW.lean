/- Layer 16 (plan): a plan made step by step, as plain data. No walk. -/
import Derived.Test.YtichfebfcapnhaaProg
import Derived.Test.YtichfebfcapnhaaPnRToPnS
import Derived.Test.YtichfebfcapnhaaPnO
namespace Go.Proofs
open Go.RowKit Go.Ink Go.Flt
set_option linter.unusedVariables false
set_option linter.unusedSimpArgs false

/-- what is known, taken, the rows, the steps -/
structure MkS where
  K : List ByteArray
  taken : List Bool
  rows : Nat
  steps : List StepD
/-- the literals looked through: the best, its rows, was it a test -/
def scan (K : List ByteArray) (rows : Nat) (sizes : List SizeD) (ls : List LitD) (tk : List Bool) : Nat → Int × Nat × Bool
  | 0 => (-1, 0, false)
  | i + 1 =>
    let p := scan K rows sizes ls tk i
    if p.2.2 then p
    else if tk.getD i true then p
    else if (ls.getD i default).kind ≠ 1 then (if readyP K (ls.getD i default) then ((i : Int), p.2.1, true) else p)
    else if p.1 < 0 ∨ behindD rows (ls.getD i default) (stepP K (ls.getD i default) i).bound sizes < p.2.1 then ((i : Int), behindD rows (ls.getD i default) (stepP K (ls.getD i default) i).bound sizes, false)
    else p
def pickM (r : RuleD) (sizes : List SizeD) (s : MkS) : Int := (scan s.K s.rows sizes r.body s.taken r.body.length).1
def stepM (r : RuleD) (sizes : List SizeD) (n : Int) (s : MkS) : MkS :=
  let L := r.body.getD n.toNat default
  let x := stepP s.K L n
  ⟨learnP s.K x.new, s.taken.set n.toNat true, behindD s.rows L x.bound sizes, s.steps ++ [x]⟩
def chooseM (r : RuleD) (sizes : List SizeD) (first : Int) (j : Nat) (s : MkS) : Int := if 0 < j ∨ first < 0 then pickM r sizes s else first
def mkGo (r : RuleD) (sizes : List SizeD) (first : Int) : Nat → MkS
  | 0 => ⟨[], List.replicate r.body.length false, 4607182418800017408, []⟩
  | j + 1 => stepM r sizes (chooseM r sizes first j (mkGo r sizes first j)) (mkGo r sizes first j)
structure PlanD where
  rule : RuleD
  steps : List StepD
def noPlan : PlanD := ⟨⟨⟨⟨#[]⟩, []⟩, []⟩, []⟩
def badFirst (r : RuleD) (first : Int) : Bool := decide (first < -1) || decide ((r.body.length : Int) ≤ first) || (decide (0 ≤ first) && decide ((r.body.getD first.toNat default).kind ≠ 1))
def makeD (r : RuleD) (sizes : List SizeD) (first : Int) : PlanD × Int :=
  if askedD r sizes (badFirst r first) ≠ 0 then (noPlan, askedD r sizes (badFirst r first)) else (⟨r, (mkGo r sizes first r.body.length).steps⟩, 0)

theorem scan_done {K : List ByteArray} {rows : Nat} {sizes : List SizeD} {ls : List LitD} {tk : List Bool} {i : Nat} (h : (scan K rows sizes ls tk i).2.2 = true) : ∀ j, i ≤ j → scan K rows sizes ls tk j = scan K rows sizes ls tk i := by
  intro j hj
  induction j with
  | zero => rw [show i = 0 by omega]
  | succ j ih =>
    rcases Nat.lt_or_ge j i with hl | hg
    · rw [show i = j + 1 by omega]
    · have ih := ih hg
      rw [show scan K rows sizes ls tk (j + 1) = _ from rfl]
      simp only [scan, ih, h, if_true]
theorem scan_least {K : List ByteArray} {rows : Nat} (hr : rows ≤ 9094988921128908188) {sizes : List SizeD} (hu : usableB sizes = true) {ls : List LitD} {tk : List Bool} (i : Nat) : (scan K rows sizes ls tk i).2.1 ≤ 9094988921128908188 := by
  induction i with
  | zero => simp [scan]
  | succ i ih =>
    simp only [scan]
    split
    · exact ih
    · split
      · exact ih
      · split
        · split
          · exact ih
          · exact ih
        · split
          · exact behind_le hr _ _ hu
          · exact ih
/-- the best is a literal that is not taken and may be looked at -/
theorem scan_good {K : List ByteArray} {rows : Nat} {sizes : List SizeD} {ls : List LitD} {tk : List Bool} (i : Nat) : (scan K rows sizes ls tk i).1 = -1 ∨ ∃ k : Nat, (scan K rows sizes ls tk i).1 = (k : Int) ∧ k < i ∧ tk.getD k true = false ∧ ((ls.getD k default).kind = 1 ∨ readyP K (ls.getD k default) = true) := by
  induction i with
  | zero => exact .inl rfl
  | succ i ih =>
    have ih2 : (scan K rows sizes ls tk i).1 = -1 ∨ ∃ k : Nat, (scan K rows sizes ls tk i).1 = (k : Int) ∧ k < i + 1 ∧ tk.getD k true = false ∧ ((ls.getD k default).kind = 1 ∨ readyP K (ls.getD k default) = true) := by
      rcases ih with h | ⟨k, h1, h2, h3⟩
      · exact .inl h
      · exact .inr ⟨k, h1, by omega, h3⟩
    simp only [scan]
    split
    · exact ih2
    · split
      · exact ih2
      · rename_i ht
        rw [Bool.not_eq_true] at ht
        split
        · split
          · rename_i hr; exact .inr ⟨i, rfl, by omega, ht, .inr hr⟩
          · exact ih2
        · rename_i hk
          split
          · exact .inr ⟨i, rfl, by omega, ht, .inl (by omega)⟩
          · exact ih2
/-- no best: whatever is not taken is a test that is not ready -/
theorem scan_none {K : List ByteArray} {rows : Nat} {sizes : List SizeD} {ls : List LitD} {tk : List Bool} (i : Nat) (h : (scan K rows sizes ls tk i).1 = -1) : ∀ k, k < i → tk.getD k true = false → (ls.getD k default).kind ≠ 1 ∧ readyP K (ls.getD k default) = false := by
  induction i with
  | zero => intro k hk; omega
  | succ i ih =>
    simp only [scan] at h
    intro k hk ht
    by_cases hd : (scan K rows sizes ls tk i).2.2 = true
    · rw [if_pos hd] at h
      -- a test was ready: its number is no -1
      exfalso
      have : ∀ j, (scan K rows sizes ls tk j).2.2 = true → (scan K rows sizes ls tk j).1 ≠ -1 := by
        intro j
        induction j with
        | zero => intro h; simp [scan] at h
        | succ j ihj =>
          simp only [scan]
          split
          · exact ihj
          · rename_i hn
            split
            · intro h; exact absurd h hn
            · split
              · split
                · intro _; simp only; omega
                · intro h; exact absurd h hn
              · split
                · intro h; simp at h
                · intro h; exact absurd h hn
      exact this i hd h
    · rw [if_neg hd] at h
      rcases Nat.lt_or_ge k i with hl | hg
      · refine ih ?_ k hl ht
        revert h
        split
        · exact id
        · split
          · split
            · simp only; omega
            · exact id
          · split
            · simp only; omega
            · exact id
      · obtain rfl : k = i := by omega
        rw [if_neg (by rw [ht]; simp)] at h
        by_cases hk1 : (ls.getD k default).kind ≠ 1
        · rw [if_pos hk1] at h
          refine ⟨hk1, ?_⟩
          by_cases hr : readyP K (ls.getD k default) = true
          · rw [if_pos hr] at h; simp only at h; omega
          · simpa using hr
        · rw [if_neg hk1] at h
          by_cases hb : (scan K rows sizes ls tk k).1 < 0 ∨ behindD rows (ls.getD k default) (stepP K (ls.getD k default) k).bound sizes < (scan K rows sizes ls tk k).2.1
          · rw [if_pos hb] at h; simp only at h; omega
          · rw [if_neg hb] at h
            exfalso
            exact hb (.inl (by omega))

/-- what holds behind each step -/
structure MkOk (r : RuleD) (j : Nat) (s : MkS) : Prop where
  len : s.taken.length = r.body.length
  cnt : (s.taken.filter id).length = j
  stp : s.steps.length = j
  row : s.rows ≤ 9094988921128908188
  bnd : ∀ k, k < r.body.length → s.taken.getD k true = true → (r.body.getD k default).kind = 1 → ∀ x, x ∈ varsL (r.body.getD k default).atom.args → x ∈ s.K
theorem readyP_mono {K K' : List ByteArray} {L : LitD} (h : ∀ x, x ∈ K → x ∈ K') (hr : readyP K L = true) : readyP K' L = true := by
  unfold readyP at hr ⊢
  rw [Bool.or_eq_true] at hr ⊢
  rcases hr with h1 | h2
  · exact .inl h1
  · right
    rw [← ready_vars, List.all_eq_true] at h2 ⊢
    intro x hx
    have := h2 x hx
    simp only [decide_eq_true_eq] at this ⊢
    exact h x this
theorem learn_mem {K new : List ByteArray} {x : ByteArray} : x ∈ learnP K new ↔ x ∈ K ∨ x ∈ new := by
  have h : ∀ (new K : List ByteArray), x ∈ learnP K new ↔ x ∈ K ∨ x ∈ new := by
    intro new
    induction new with
    | nil => intro K; simp [learnP]
    | cons y r ih =>
      intro K
      unfold learnP
      rw [List.foldl_cons]
      have := ih (if y ∈ K then K else K ++ [y])
      unfold learnP at this
      rw [this]
      by_cases hy : y ∈ K
      · rw [if_pos hy, List.mem_cons]
        constructor
        · rintro (h | h)
          · exact .inl h
          · exact .inr (.inr h)
        · rintro (h | rfl | h)
          · exact .inl h
          · exact .inl hy
          · exact .inr h
      · rw [if_neg hy, List.mem_append, List.mem_singleton, List.mem_cons, or_assoc]
  exact h new K
theorem count_set {l : List Bool} {k : Nat} (h : l.getD k true = false) : ((l.set k true).filter id).length = (l.filter id).length + 1 := by
  induction l generalizing k with
  | nil => simp at h
  | cons b r ih =>
    cases k with
    | zero =>
      simp at h
      subst h
      simp
    | succ k =>
      simp only [List.getD_cons_succ] at h
      have := ih h
      cases b <;> simp [this]
theorem count_false {l : List Bool} (h : (l.filter id).length < l.length) : ∃ k, k < l.length ∧ l.getD k true = false := by
  induction l with
  | nil => simp at h
  | cons b r ih =>
    cases b with
    | false => exact ⟨0, by simp, rfl⟩
    | true =>
      obtain ⟨k, h1, h2⟩ := ih (by rw [List.filter_cons, if_pos (show id true = true from rfl), List.length_cons, List.length_cons] at h; omega)
      exact ⟨k + 1, by simp; omega, by simpa using h2⟩
/-- the literal that is looked at next is there, is not taken and may be looked at -/
theorem choose_good {r : RuleD} {sizes : List SizeD} {first : Int} (hs : safeP r = true) (hf : badFirst r first = false) {j : Nat} {s : MkS} (hj : j < r.body.length) (h : MkOk r j s) (h0 : j = 0 → s.taken = List.replicate r.body.length false) :
    ∃ k : Nat, chooseM r sizes first j s = (k : Int) ∧ k < r.body.length ∧ s.taken.getD k true = false ∧ ((r.body.getD k default).kind = 1 ∨ readyP s.K (r.body.getD k default) = true) := by
  unfold chooseM
  by_cases hc : 0 < j ∨ first < 0
  · rw [if_pos hc]
    unfold pickM
    rcases scan_good (K := s.K) (rows := s.rows) (sizes := sizes) (ls := r.body) (tk := s.taken) r.body.length with hn | ⟨k, h1, h2, h3, h4⟩
    · exfalso
      have hall := scan_none _ hn
      obtain ⟨k, hk1, hk2⟩ := count_false (l := s.taken) (by rw [h.cnt, h.len]; exact hj)
      rw [h.len] at hk1
      have hk3 := hall k hk1 hk2
      -- every positive literal is taken, so all variables are known
      have hK : ∀ x, x ∈ factsK r.body → x ∈ s.K := by
        intro x hx
        rw [← known_mem] at hx
        have : ∀ i, i ≤ r.body.length → x ∈ knownR (r.body.take i) → x ∈ s.K := by
          intro i
          induction i with
          | zero => intro _ hx; simp [knownR] at hx
          | succ i ih =>
            intro hi hx
            have hL := List.getElem?_eq_getElem (show i < r.body.length by omega)
            rw [knownR_snoc r.body hL] at hx
            have hgd : r.body.getD i default = r.body[i]'(by omega) := by rw [List.getD_eq_getElem?_getD, hL]; rfl
            split at hx
            · rename_i hk1'
              rcases List.mem_append.1 hx with hx | hx
              · exact ih (by omega) hx
              · by_cases ht : s.taken.getD i true = true
                · exact h.bnd i (by omega) ht (by rw [hgd]; exact hk1') x (by rw [hgd]; exact hx)
                · exact absurd (by rw [hgd]; exact hk1') (hall i (by omega) (by simpa using ht)).1
            · exact ih (by omega) hx
        exact this r.body.length (Nat.le_refl _) (by rwa [List.take_length])
      unfold safeP at hs
      rw [Bool.and_eq_true, List.all_eq_true] at hs
      have hgd : r.body.getD k default = r.body[k] := by rw [List.getD_eq_getElem?_getD, List.getElem?_eq_getElem hk1]; rfl
      have := readyP_mono hK (hs.2 (r.body.getD k default) (by rw [hgd]; exact List.getElem_mem _))
      rw [hk3.2] at this
      cases this
    · exact ⟨k, h1, h2, h3, h4⟩
  · rw [if_neg hc]
    unfold badFirst at hf
    rw [Bool.or_eq_false_iff, Bool.or_eq_false_iff, decide_eq_false_iff_not, decide_eq_false_iff_not] at hf
    have h3 := hf.2
    rw [decide_eq_true (show 0 ≤ first by omega), Bool.true_and, decide_eq_false_iff_not, Classical.not_not] at h3
    refine ⟨first.toNat, by omega, by omega, ?_, .inl h3⟩
    rw [h0 (by omega), List.getD_eq_getElem?_getD, List.getElem?_replicate, if_pos (by omega)]
    rfl
theorem mk_ok {r : RuleD} {sizes : List SizeD} {first : Int} (hu : usableB sizes = true) (hs : safeP r = true) (hf : badFirst r first = false) (j : Nat) (hj : j ≤ r.body.length) : MkOk r j (mkGo r sizes first j) := by
  induction j with
  | zero =>
    refine ⟨by simp [mkGo], by simp [mkGo, List.filter_replicate], rfl, by simp only [mkGo]; decide, ?_⟩
    intro k hk ht
    simp only [mkGo] at ht
    rw [List.getD_eq_getElem?_getD, List.getElem?_replicate, if_pos hk] at ht
    cases ht
  | succ j ih =>
    have ih := ih (by omega)
    obtain ⟨k, hk1, hk2, hk3, hk4⟩ := choose_good (sizes := sizes) hs hf (show j < r.body.length by omega) ih (fun h => by subst h; rfl)
    have e : mkGo r sizes first (j + 1) = stepM r sizes (k : Int) (mkGo r sizes first j) := by
      show stepM r sizes (chooseM r sizes first j (mkGo r sizes first j)) (mkGo r sizes first j) = _
      rw [hk1]
    rw [e]
    unfold stepM
    simp only [Int.toNat_natCast]
    refine ⟨by simp only [List.length_set]; exact ih.len, ?_, ?_, behind_le ih.row _ _ hu, ?_⟩
    · rw [count_set hk3, ih.cnt]
    · simp only [List.length_append, List.length_singleton]; rw [ih.stp]
    · intro i hi ht h1 x hx
      rw [learn_mem]
      by_cases hik : i = k
      · subst hik
        have hnew : (stepP (mkGo r sizes first j).K (r.body.getD i default) (i : Int)).new = newL (mkGo r sizes first j).K (r.body.getD i default).atom.args := by unfold stepP; rw [if_neg (by omega)]
        rw [hnew, newL_mem]
        by_cases hxK : x ∈ (mkGo r sizes first j).K
        · exact .inl hxK
        · exact .inr ⟨hx, hxK⟩
      · left
        refine ih.bnd i hi ?_ h1 x hx
        rwa [List.getD_eq_getElem?_getD, List.getElem?_set_ne (fun e => hik e.symm), ← List.getD_eq_getElem?_getD] at ht
end Go.Proofs
