/- In which order a rule's literals can be looked at: the plain laws. No program is named here. -/
import Derived.Test.YtdedcebabimioaaData
namespace Go.Ink
open Go.RowKit
set_option linter.unusedVariables false
set_option linter.unusedSimpArgs false

/-- can a literal be looked at where these are bound? -/
def readyD (L : LitD) (s : List ByteArray) : Bool := L.kind == 1 || ((L.kind == 2 || L.kind == 3) && L.uses.all fun x => decide (x ∈ s))
theorem readyD_mono {L : LitD} {s s' : List ByteArray} (h : ∀ x, x ∈ s → x ∈ s') (hr : readyD L s = true) : readyD L s' = true := by
  simp only [readyD, Bool.or_eq_true, Bool.and_eq_true, List.all_eq_true, decide_eq_true_eq] at hr ⊢
  rcases hr with hr | ⟨h1, h2⟩
  · exact .inl hr
  · exact .inr ⟨h1, fun x hx => h x (h2 x hx)⟩

/-- is it a literal of the three kinds? -/
def litKind (L : LitD) : Bool := decide (1 ≤ L.kind) && decide (L.kind ≤ 3)
/-- names added to a set, in turn -/
def addL (s xs : List ByteArray) : List ByteArray := xs.foldl (fun s k => if k ∈ s then s else s ++ [k]) s
theorem mem_addL {x : ByteArray} : ∀ {xs s : List ByteArray}, x ∈ addL s xs ↔ x ∈ s ∨ x ∈ xs := by
  intro xs
  induction xs with
  | nil => intro s; simp [addL]
  | cons k xs ih =>
    intro s
    show x ∈ addL (if k ∈ s then s else s ++ [k]) xs ↔ _
    rw [ih]
    by_cases h : k ∈ s
    · rw [if_pos h, List.mem_cons]
      constructor
      · rintro (h1 | h1)
        · exact .inl h1
        · exact .inr (.inr h1)
      · rintro (h1 | h1 | h1)
        · exact .inl h1
        · exact .inl (h1 ▸ h)
        · exact .inr h1
    · rw [if_neg h]
      simp only [List.mem_append, List.mem_cons, List.not_mem_nil, or_false]
      constructor
      · rintro ((h1 | h1) | h1)
        · exact .inl h1
        · exact .inr (.inl h1)
        · exact .inr (.inr h1)
      · rintro (h1 | h1 | h1)
        · exact .inl (.inl h1)
        · exact .inl (.inr h1)
        · exact .inr h1
def wants (body : List LitD) (taken : List Bool) (i : Nat) : Bool := !taken.getD i true && litKind (body.getD i default)
def pickAt (body : List LitD) (taken : List Bool) (s : List ByteArray) : Option Nat := (List.range body.length).find? fun i => wants body taken i && readyD (body.getD i default) s
def leftAt (body : List LitD) (taken : List Bool) : Bool := (List.range body.length).any (wants body taken)
def bindAt (s : List ByteArray) (L : LitD) : List ByteArray := if L.kind == 1 then addL s L.uses else s
def wayGo (body : List LitD) : Nat → List Bool → List ByteArray → List Nat → List Nat × Bool
  | 0, _, _, _ => ([], false)
  | n + 1, taken, s, out => match pickAt body taken s with
    | some i => wayGo body n (taken.set i true) (bindAt s (body.getD i default)) (out ++ [i])
    | none => if leftAt body taken = true then ([], false) else (out, true)
/-- what safe.Way answers -/
def wayD (body : List LitD) : List Nat × Bool := wayGo body (body.length + 1) (List.replicate body.length false) [] []

theorem pick_some {body : List LitD} {taken : List Bool} {s : List ByteArray} {i : Nat} (h : pickAt body taken s = some i) :
    i < body.length ∧ taken.getD i true = false ∧ litKind (body.getD i default) = true ∧ readyD (body.getD i default) s = true := by
  have h1 := List.find?_some h
  have h2 := List.mem_of_find?_eq_some h
  simp only [wants, Bool.and_eq_true, Bool.not_eq_true'] at h1
  exact ⟨List.mem_range.1 h2, h1.1.1, h1.1.2, h1.2⟩
theorem pick_none {body : List LitD} {taken : List Bool} {s : List ByteArray} (h : pickAt body taken s = none) {i : Nat} (hi : i < body.length) (ht : taken.getD i true = false)
    (hk : litKind (body.getD i default) = true) : readyD (body.getD i default) s = false := by
  have := List.find?_eq_none.1 h i (List.mem_range.2 hi)
  simp only [wants, ht, hk, Bool.not_false, Bool.and_self, Bool.true_and, Bool.not_eq_true] at this
  exact this
theorem count_take {taken : List Bool} {i : Nat} (h : taken.getD i true = false) : (taken.set i true).count false + 1 = taken.count false := by
  have hi : i < taken.length := by
    rcases Nat.lt_or_ge i taken.length with h' | h'
    · exact h'
    · simp [List.getD, List.getElem?_eq_none h'] at h
  have hg : taken[i] = false := by simpa [List.getD, List.getElem?_eq_getElem hi] using h
  have hpos : 0 < taken.count false := List.count_pos_iff.2 (hg ▸ List.getElem_mem hi)
  rw [List.count_set hi]
  simp [hg]
  omega

/-- what the loop of Way has come to -/
structure WaySt (body : List LitD) (taken : List Bool) (s : List ByteArray) (out : List Nat) : Prop where
  len : taken.length = body.length
  nodup : out.Nodup
  mem : ∀ i, i < body.length → (taken.getD i true = true ↔ i ∈ out)
  kind : ∀ i, i ∈ out → i < body.length ∧ litKind (body.getD i default) = true
  set : ∀ x, x ∈ s ↔ ∃ i, i ∈ out ∧ (body.getD i default).kind = 1 ∧ x ∈ (body.getD i default).uses
  steps : ∀ j i, out[j]? = some i → ∃ s', (∀ x, x ∈ s' ↔ ∃ q, q ∈ out.take j ∧ (body.getD q default).kind = 1 ∧ x ∈ (body.getD q default).uses) ∧ readyD (body.getD i default) s' = true

theorem WaySt.start (body : List LitD) : WaySt body (List.replicate body.length false) [] [] :=
  ⟨by simp, List.nodup_nil, fun i hi => by simp [List.getD, List.getElem?_replicate, hi], fun i h => by simp at h, fun x => by simp, fun j i h => by simp at h⟩

theorem WaySt.step {body : List LitD} {taken : List Bool} {s : List ByteArray} {out : List Nat} (h : WaySt body taken s out) {i : Nat} (hp : pickAt body taken s = some i) :
    WaySt body (taken.set i true) (bindAt s (body.getD i default)) (out ++ [i]) := by
  obtain ⟨hi, ht, hk, hr⟩ := pick_some hp
  have hno : i ∉ out := fun hm => by
    rw [(h.mem i hi).2 hm] at ht; cases ht
  refine ⟨by simpa using h.len, ?_, fun j hj => ?_, fun j hj => ?_, fun x => ?_, fun j q hq => ?_⟩
  · rw [List.nodup_append]
    exact ⟨h.nodup, by simp, fun a ha b hb => by simp at hb; subst hb; exact fun e => hno (e ▸ ha)⟩
  · by_cases hji : i = j
    · subst hji
      simp [List.getD, List.getElem?_set, h.len, hi]
    · have := h.mem j hj
      simp only [List.getD, List.getElem?_set, hji, if_false, List.mem_append, List.mem_singleton] at this ⊢
      rw [this]
      constructor
      · exact .inl
      · rintro (h1 | h1)
        · exact h1
        · exact absurd h1.symm hji
  · rcases List.mem_append.1 hj with h1 | h1
    · exact h.kind j h1
    · simp at h1; subst h1; exact ⟨hi, hk⟩
  · have hx : x ∈ bindAt s (body.getD i default) ↔ x ∈ s ∨ ((body.getD i default).kind = 1 ∧ x ∈ (body.getD i default).uses) := by
      unfold bindAt
      by_cases h1 : ((body.getD i default).kind == 1) = true
      · rw [if_pos h1, mem_addL]
        have : (body.getD i default).kind = 1 := beq_iff_eq.1 h1
        simp only [this, true_and]
      · rw [if_neg h1]
        have : ¬ (body.getD i default).kind = 1 := fun e => h1 (beq_iff_eq.2 e)
        simp only [this, false_and, or_false]
    rw [hx, h.set]
    constructor
    · rintro (⟨q, h1, h2⟩ | h1)
      · exact ⟨q, List.mem_append_left _ h1, h2⟩
      · exact ⟨i, by simp, h1⟩
    · rintro ⟨q, h1, h2⟩
      rcases List.mem_append.1 h1 with h3 | h3
      · exact .inl ⟨q, h3, h2⟩
      · simp at h3; subst h3; exact .inr h2
  · rcases Nat.lt_or_ge j out.length with hjl | hjl
    · rw [List.getElem?_append_left hjl] at hq
      obtain ⟨s', h1, h2⟩ := h.steps j q hq
      exact ⟨s', fun x => by rw [List.take_append_of_le_length (by omega)]; exact h1 x, h2⟩
    · have hje : j = out.length := by
        have := (List.getElem?_eq_some_iff.1 hq).1
        simp at this; omega
      subst hje
      simp at hq
      subst hq
      exact ⟨s, fun x => by rw [List.take_append_of_le_length (Nat.le_refl _), List.take_length]; exact h.set x, hr⟩

/-- how the loop ends -/
theorem wayGo_ends (body : List LitD) : ∀ (n : Nat) (taken : List Bool) (s : List ByteArray) (out : List Nat), WaySt body taken s out → taken.count false < n →
    ∃ taken' s' out', WaySt body taken' s' out' ∧ pickAt body taken' s' = none ∧ wayGo body n taken s out = if leftAt body taken' = true then ([], false) else (out', true) := by
  intro n
  induction n with
  | zero => intro taken s out _ h; omega
  | succ n ih =>
    intro taken s out h hc
    cases hp : pickAt body taken s with
    | none => exact ⟨taken, s, out, h, hp, by simp only [wayGo, hp]⟩
    | some i =>
      have h1 := count_take (pick_some hp).2.1
      obtain ⟨t', s', o', h2, h3, h4⟩ := ih _ _ _ (h.step hp) (by omega)
      exact ⟨t', s', o', h2, h3, by rw [← h4]; simp only [wayGo, hp]⟩
theorem wayD_ends (body : List LitD) : ∃ taken' s' out', WaySt body taken' s' out' ∧ pickAt body taken' s' = none ∧ wayD body = if leftAt body taken' = true then ([], false) else (out', true) :=
  wayGo_ends body _ _ _ _ (WaySt.start body) (by simp [List.count_replicate])

theorem wayGo_len (body : List LitD) : ∀ (n : Nat) (taken : List Bool) (s : List ByteArray) (out : List Nat), (wayGo body n taken s out).1.length ≤ out.length + taken.count false := by
  intro n
  induction n with
  | zero => intro taken s out; simp [wayGo]
  | succ n ih =>
    intro taken s out
    cases hp : pickAt body taken s with
    | none =>
      simp only [wayGo, hp]
      split
      · simp
      · simp
    | some i =>
      have h1 := count_take (pick_some hp).2.1
      have h2 := ih (taken.set i true) (bindAt s (body.getD i default)) (out ++ [i])
      simp only [wayGo, hp]
      simp only [List.length_append, List.length_singleton] at h2
      omega
theorem wayD_len (body : List LitD) : (wayD body).1.length ≤ body.length := by
  have := wayGo_len body (body.length + 1) (List.replicate body.length false) [] []
  simpa [wayD, List.count_replicate] using this

/-- renaming one to one -/
theorem wayGo_ren {body body' : List LitD} (hl : body'.length = body.length) (hk : ∀ i, litKind (body'.getD i default) = litKind (body.getD i default)) (hk1 : ∀ i, ((body'.getD i default).kind == 1) = ((body.getD i default).kind == 1)) (R : List ByteArray → List ByteArray → Prop)
    (hR : ∀ s s' i, i < body.length → R s s' → readyD (body'.getD i default) s' = readyD (body.getD i default) s)
    (hB : ∀ s s' i, i < body.length → R s s' → R (addL s (body.getD i default).uses) (addL s' (body'.getD i default).uses)) :
    ∀ (n : Nat) (taken : List Bool) (s s' : List ByteArray) (out : List Nat), R s s' → wayGo body' n taken s' out = wayGo body n taken s out := by
  have hw : ∀ taken i, wants body' taken i = wants body taken i := fun taken i => by simp only [wants, hk]
  intro n
  induction n with
  | zero => intro taken s s' out _; rfl
  | succ n ih =>
    intro taken s s' out h
    have hp : pickAt body' taken s' = pickAt body taken s := by
      unfold pickAt
      rw [hl]
      have : ∀ (l : List Nat), (∀ i, i ∈ l → i < body.length) → l.find? (fun i => wants body' taken i && readyD (body'.getD i default) s') = l.find? (fun i => wants body taken i && readyD (body.getD i default) s) := by
        intro l
        induction l with
        | nil => intro _; rfl
        | cons a l ihl =>
          intro hlt
          simp only [List.find?_cons, hw, hR s s' a (hlt a (by simp)) h]
          have h2 := ihl fun i hi => hlt i (by simp [hi])
          simp only [hw] at h2
          rw [h2]
      exact this _ fun i hi => List.mem_range.1 hi
    have hle : leftAt body' taken = leftAt body taken := by
      unfold leftAt
      rw [hl]
      congr 1
      funext i
      exact hw taken i
    simp only [wayGo, hp, hle]
    cases hq : pickAt body taken s with
    | none => rfl
    | some i =>
      simp only
      refine ih _ _ _ _ ?_
      simp only [bindAt, hk1]
      split
      · exact hB s s' i (pick_some hq).1 h
      · exact h
end Go.Ink
