/- What SafeWay's law leans on: the plain laws. -/
import Derived.Test.YtdedcebabimioaaFaults
import Derived.Test.YtdedcebabimioaaWays
import Derived.Test.YtdedcebabimioaaReady
namespace Go.Proofs
open Go.RowKit Go.Ink
set_option linter.unusedVariables false
set_option linter.unusedSimpArgs false

theorem fold_same (i : Int) (fs : List LooseD) (s : List ByteArray) : ∀ (l : List (Int × ByteArray)), (∀ x, x ∈ l → x.2 ∈ s) → l.foldl (fstep i) (fs, s) = (fs, s) := by
  intro l
  induction l with
  | nil => intro _; rfl
  | cons y l ih =>
    intro h
    rw [List.foldl_cons]
    have h1 : fstep i (fs, s) y = (fs, s) := by unfold fstep; rw [if_pos (h y (by simp))]
    rw [h1]
    exact ih fun x hx => h x (by simp [hx])
theorem fold_grow (i : Int) : ∀ (l : List (Int × ByteArray)) (fs : List LooseD) (s : List ByteArray), ∃ rest, (l.foldl (fstep i) (fs, s)).1 = fs ++ rest := by
  intro l
  induction l with
  | nil => intro fs s; exact ⟨[], by simp⟩
  | cons y l ih =>
    intro fs s
    rw [List.foldl_cons]
    unfold fstep
    split
    · exact ih fs s
    · obtain ⟨rest, h⟩ := ih (fs ++ [⟨i, y.1, y.2⟩]) (s ++ [y.2])
      exact ⟨⟨i, y.1, y.2⟩ :: rest, by
        have h' := h
        unfold fstep at h'
        rw [h', List.append_assoc]
        rfl⟩
theorem fold_first (i : Int) (x : ByteArray) : ∀ (l : List (Int × ByteArray)) (s : List ByteArray), (l.map (·.2)).find? (fun y => decide (y ∉ s)) = some x → ∃ pos rest, (l.foldl (fstep i) ([], s)).1 = ⟨i, pos, x⟩ :: rest := by
  intro l
  induction l with
  | nil => intro s h; simp at h
  | cons y l ih =>
    intro s h
    rw [List.map_cons, List.find?_cons] at h
    by_cases hy : y.2 ∈ s
    · have hd : decide (y.2 ∉ s) = false := by simpa using hy
      rw [hd] at h
      obtain ⟨pos, rest, hr⟩ := ih s h
      refine ⟨pos, rest, ?_⟩
      rw [List.foldl_cons]
      have h1 : fstep i ([], s) y = ([], s) := by unfold fstep; rw [if_pos hy]
      rw [h1]
      exact hr
    · have hd : decide (y.2 ∉ s) = true := by simpa using hy
      rw [hd] at h
      simp only [Option.some.injEq] at h
      subst h
      rw [List.foldl_cons]
      have h1 : fstep i ([], s) y = ([⟨i, y.1, y.2⟩], s ++ [y.2]) := by unfold fstep; rw [if_neg hy]; rfl
      rw [h1]
      obtain ⟨rest, hr⟩ := fold_grow i l [⟨i, y.1, y.2⟩] (s ++ [y.2])
      exact ⟨y.1, rest, by rw [hr]; rfl⟩

theorem faults_one (r : RuleD) : faultsOf [r] = (r.stands.foldl (fstep 0) ([], boundOf r.body)).1 := by
  show (faultsIn 0 r [] r.stands.length).1 = _
  unfold faultsIn
  rw [List.take_length]
theorem faults_none {r : RuleD} (h : looseOf r = none) : faultsOf [r] = [] := by
  rw [faults_one, fold_same]
  intro x hx
  have := List.find?_eq_none.1 h x.2 (List.mem_map.2 ⟨x, hx, rfl⟩)
  simpa using this
theorem faults_some {r : RuleD} {x : ByteArray} (h : looseOf r = some x) : ∃ pos rest, faultsOf [r] = ⟨0, pos, x⟩ :: rest := by
  rw [faults_one]
  exact fold_first 0 x r.stands (boundOf r.body) h
theorem loose_all (r : RuleD) : (onceL r.names).all (fun x => decide (x ∈ boundOf r.body)) = (looseOf r).isNone := by
  cases h : looseOf r with
  | none =>
    rw [Option.isNone_none, List.all_eq_true]
    intro x hx
    have := List.find?_eq_none.1 h x ((onceL_mem _ _).1 hx)
    simpa using this
  | some x =>
    rw [Option.isNone_some, Bool.eq_false_iff]
    intro hall
    have h1 := List.find?_some h
    have h2 := List.mem_of_find?_eq_some h
    have := List.all_eq_true.1 hall x ((onceL_mem _ _).2 h2)
    simp at h1 this
    exact h1 this
theorem loose_some {r : RuleD} {x : ByteArray} (h : looseOf r = some x) : x ∉ boundOf r.body ∧ x ∈ onceL r.names := by
  have h1 := List.find?_some h
  have h2 := List.mem_of_find?_eq_some h
  exact ⟨by simpa using h1, (onceL_mem _ _).2 h2⟩

theorem mem_bound {body : List LitD} {x : ByteArray} : x ∈ boundOf body ↔ ∃ L, L ∈ body ∧ L.kind = 1 ∧ x ∈ L.uses := by
  rw [boundOf, onceL_mem, List.mem_flatMap]
  constructor
  · rintro ⟨L, hL, hx⟩
    have := List.mem_filter.1 hL
    exact ⟨L, this.1, by simpa using this.2, hx⟩
  · rintro ⟨L, hL, hk, hx⟩
    exact ⟨L, List.mem_filter.2 ⟨hL, by simpa using hk⟩, hx⟩

/-- what the law's own loop over the body works out -/
def canTo (body : List LitD) (k : Nat) : Bool := (body.take k).all fun L => !litKind L || readyD L (boundOf body)
def manyTo (body : List LitD) (k : Nat) : Nat := (body.take k).countP litKind
theorem canTo_succ {body : List LitD} {k : Nat} {L : LitD} (h : body[k]? = some L) : canTo body (k + 1) = (canTo body k && (!litKind L || readyD L (boundOf body))) := by
  unfold canTo
  rw [List.take_add_one, h, List.all_append]
  simp
theorem manyTo_succ {body : List LitD} {k : Nat} {L : LitD} (h : body[k]? = some L) : manyTo body (k + 1) = manyTo body k + if litKind L = true then 1 else 0 := by
  unfold manyTo
  rw [List.take_add_one, h, List.countP_append]
  simp [List.countP_cons]

theorem at_mem {body : List LitD} {i : Nat} (hi : i < body.length) : body.getD i default ∈ body := by
  simp [List.getD, List.getElem?_eq_getElem hi]
theorem mem_at {body : List LitD} {L : LitD} (h : L ∈ body) : ∃ i, i < body.length ∧ body.getD i default = L := by
  obtain ⟨i, hi⟩ := List.mem_iff_getElem?.1 h
  have hl := (List.getElem?_eq_some_iff.1 hi).1
  exact ⟨i, hl, by simp [List.getD, hi]⟩
theorem count_range (body : List LitD) : body.countP litKind = ((List.range body.length).filter fun i => litKind (body.getD i default)).length := by
  have h : body = (List.range body.length).map fun i => body.getD i default := by
    refine List.ext_getElem? fun j => ?_
    rcases Nat.lt_or_ge j body.length with hj | hj
    · simp [List.getElem?_map, List.getElem?_range hj, List.getD, List.getElem?_eq_getElem hj]
    · rw [List.getElem?_eq_none hj, List.getElem?_eq_none (by simp; exact hj)]
  conv => lhs; rw [h]
  rw [List.countP_map, List.countP_eq_length_filter]
  rfl

theorem body_range (body : List LitD) : body = (List.range body.length).map fun i => body.getD i default := by
  refine List.ext_getElem? fun j => ?_
  rcases Nat.lt_or_ge j body.length with hj | hj
  · simp [List.getElem?_map, List.getElem?_range hj, List.getD, List.getElem?_eq_getElem hj]
  · rw [List.getElem?_eq_none hj, List.getElem?_eq_none (by simp; exact hj)]
theorem flat_filter {α β : Type} (g : α → List β) (p : α → Bool) (xs : List α) : ((xs.filter p).flatMap g).length ≤ (xs.flatMap g).length := by
  induction xs with
  | nil => simp
  | cons L ls ih =>
    rw [List.filter_cons]
    split
    · simp only [List.flatMap_cons, List.length_append]; omega
    · simp only [List.flatMap_cons, List.length_append]; omega
theorem ahead_uses {body : List LitD} {l : List Nat} (hn : l.Nodup) (hl : ∀ i, i ∈ l → i < body.length) : ((l.map fun q => body.getD q default).flatMap LitD.uses).length ≤ (body.flatMap LitD.uses).length := by
  have hp : l.Perm ((List.range body.length).filter fun i => decide (i ∈ l)) := by
    refine (List.perm_ext_iff_of_nodup hn (List.Pairwise.filter _ List.nodup_range)).2 fun i => ?_
    rw [List.mem_filter, List.mem_range]
    exact ⟨fun h => ⟨hl i h, by simpa using h⟩, fun h => by simpa using h.2⟩
  have h1 := (hp.flatMap_right fun q => (body.getD q default).uses).length_eq
  have h2 := flat_filter (fun q => (body.getD q default).uses) (fun i => decide (i ∈ l)) (List.range body.length)
  have h3 : (body.flatMap LitD.uses).length = ((List.range body.length).flatMap fun q => (body.getD q default).uses).length := by
    conv => lhs; rw [body_range body]
    rw [List.flatMap_map]
  rw [List.flatMap_map, h3]
  omega

/-- what Way answers fits what the body says -/
theorem way_law (body : List LitD) : (wayD body).2 = canTo body body.length ∧ ((wayD body).2 = false → (wayD body).1 = []) ∧ ((wayD body).2 = true → (wayD body).1.length = manyTo body body.length) ∧
    (wayD body).1.Nodup ∧ (∀ i, i ∈ (wayD body).1 → i < body.length) ∧
    ∀ j i, (wayD body).1[j]? = some i → readyD (body.getD i default) (boundOf (((wayD body).1.take j).map fun q => body.getD q default)) = true := by
  obtain ⟨tk, s, out, hst, hp, he⟩ := wayD_ends body
  have hpos : ∀ i, i < body.length → (body.getD i default).kind = 1 → i ∈ out := fun i hi hk => by
    refine (hst.mem i hi).1 ?_
    cases ht : tk.getD i true with
    | true => rfl
    | false =>
      have := pick_none hp hi ht (by unfold litKind; rw [hk]; decide)
      unfold readyD at this
      rw [hk] at this
      simp at this
  have hsb : ∀ x, x ∈ s ↔ x ∈ boundOf body := fun x => by
    rw [hst.set, mem_bound]
    constructor
    · rintro ⟨i, hi, hk, hx⟩
      exact ⟨_, at_mem (hst.kind i hi).1, hk, hx⟩
    · rintro ⟨L, hL, hk, hx⟩
      obtain ⟨i, hi, rfl⟩ := mem_at hL
      exact ⟨i, hpos i hi hk, hk, hx⟩
  by_cases hleft : leftAt body tk = true
  · rw [if_pos hleft] at he
    rw [he]
    refine ⟨?_, fun _ => rfl, fun h => (by cases h), List.nodup_nil, fun i h => (by cases h), fun j i h => (by simp at h)⟩
    obtain ⟨i, hi, hw⟩ := List.any_eq_true.1 hleft
    have hi := List.mem_range.1 hi
    simp only [wants, Bool.and_eq_true, Bool.not_eq_true'] at hw
    have hno := pick_none hp hi hw.1 hw.2
    refine (Bool.eq_false_iff.2 fun hall => ?_).symm
    rw [canTo, List.take_length] at hall
    have := List.all_eq_true.1 hall _ (at_mem hi)
    rw [hw.2] at this
    simp only [Bool.not_true, Bool.false_or] at this
    rw [readyD_mono (fun x hx => (hsb x).2 hx) this] at hno
    cases hno
  · rw [if_neg hleft] at he
    rw [he]
    have hin : ∀ i, i < body.length → litKind (body.getD i default) = true → i ∈ out := fun i hi hk => by
      refine (hst.mem i hi).1 ?_
      cases ht : tk.getD i true with
      | true => rfl
      | false => exact absurd (List.any_eq_true.2 ⟨i, List.mem_range.2 hi, by unfold wants; rw [ht, hk]; rfl⟩) hleft
    refine ⟨?_, fun h => (by cases h), fun _ => ?_, hst.nodup, fun i hi => (hst.kind i hi).1, fun j i hj => ?_⟩
    · refine (List.all_eq_true.2 fun L hL => ?_).symm
      rw [List.take_length] at hL
      obtain ⟨i, hi, rfl⟩ := mem_at hL
      cases hk : litKind (body.getD i default) with
      | false => rfl
      | true =>
        obtain ⟨j, hj⟩ := List.mem_iff_getElem?.1 (hin i hi hk)
        obtain ⟨s', h1, h2⟩ := hst.steps j i hj
        simp only [Bool.not_true, Bool.false_or]
        refine readyD_mono (fun x hx => ?_) h2
        obtain ⟨q, hq, hkq, hxq⟩ := (h1 x).1 hx
        exact mem_bound.2 ⟨_, at_mem (hst.kind q (List.mem_of_mem_take hq)).1, hkq, hxq⟩
    · rw [manyTo, List.take_length, count_range]
      refine List.Perm.length_eq ((List.perm_ext_iff_of_nodup hst.nodup (List.Pairwise.filter _ List.nodup_range)).2 fun i => ?_)
      rw [List.mem_filter, List.mem_range]
      exact ⟨fun h => hst.kind i h, fun h => hin i h.1 h.2⟩
    · obtain ⟨s', h1, h2⟩ := hst.steps j i hj
      refine readyD_mono (fun x hx => ?_) h2
      obtain ⟨q, hq, hkq, hxq⟩ := (h1 x).1 hx
      exact mem_bound.2 ⟨_, List.mem_map.2 ⟨q, hq, rfl⟩, hkq, hxq⟩
end Go.Proofs
