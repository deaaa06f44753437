/- Renaming variables one to one: the plain laws. -/
import Derived.Test.YtdedcebabimioaaRenamed
import Derived.Test.YtdedcebabimioaaRule
import Derived.Test.YtdedcebabimioaaWays
namespace Go.Proofs
open Go.RowKit Go.Ink
set_option linter.unusedVariables false
set_option linter.unusedSimpArgs false

theorem ren_inj {a b more : ByteArray} (h : a ++ more = b ++ more) : a = b := by
  have h1 : (a ++ more).data = (b ++ more).data := by rw [h]
  rw [ByteArray.data_append, ByteArray.data_append] at h1
  have h2 := congrArg Array.toList h1
  rw [Array.toList_append, Array.toList_append] at h2
  exact ByteArray.ext (Array.toList_inj.1 (List.append_cancel_right h2))
theorem mem_ren {more x : ByteArray} {l : List ByteArray} : x ++ more ∈ l.map (· ++ more) ↔ x ∈ l := by
  rw [List.mem_map]
  exact ⟨fun ⟨y, hy, he⟩ => ren_inj he ▸ hy, fun h => ⟨x, h, rfl⟩⟩
theorem terms_ren (more : ByteArray) (L : LitD) : (renL more L).terms = L.terms.map (mapT more) := by
  unfold LitD.terms renL
  simp only
  split
  · rfl
  · split <;> rfl
theorem uses_map (more : ByteArray) (ts : List TermD) : (((ts.map (mapT more)).filter (·.var)).map (·.text)) = ((ts.filter (·.var)).map (·.text)).map (· ++ more) := by
  induction ts with
  | nil => rfl
  | cons t ts ih =>
    cases hv : t.var with
    | true => simp [mapT, hv, ih]
    | false => simp [mapT, hv, ih]
theorem uses_ren (more : ByteArray) (L : LitD) : (renL more L).uses = L.uses.map (· ++ more) := by
  unfold LitD.uses
  rw [terms_ren]
  exact uses_map more L.terms
theorem head_ren (more : ByteArray) (r : RuleD) : (renR more r).headLit = renL more r.headLit := by
  simp [RuleD.headLit, renR, renL, mapT]
theorem flat_ren (more : ByteArray) (ls : List LitD) : (ls.map (renL more)).flatMap LitD.uses = (ls.flatMap LitD.uses).map (· ++ more) := by
  induction ls with
  | nil => rfl
  | cons L ls ih => simp only [List.map_cons, List.flatMap_cons, List.map_append, ih, uses_ren]
theorem names_ren (more : ByteArray) (r : RuleD) : (renR more r).names = r.names.map (· ++ more) := by
  rw [names_eq, names_eq, head_ren, uses_ren, List.map_append]
  congr 1
  exact flat_ren more r.body
theorem once_ren (more : ByteArray) (l : List ByteArray) : onceL (l.map (· ++ more)) = (onceL l).map (· ++ more) := by
  have h : ∀ (l acc : List ByteArray), (l.map (· ++ more)).foldl (fun acc x => if x ∈ acc then acc else acc ++ [x]) (acc.map (· ++ more)) = (l.foldl (fun acc x => if x ∈ acc then acc else acc ++ [x]) acc).map (· ++ more) := by
    intro l
    induction l with
    | nil => intro acc; rfl
    | cons x l ih =>
      intro acc
      simp only [List.map_cons, List.foldl_cons, mem_ren]
      by_cases hx : x ∈ acc
      · rw [if_pos hx, if_pos hx]; exact ih acc
      · rw [if_neg hx, if_neg hx]
        have := ih (acc ++ [x])
        rwa [List.map_append] at this
  exact h l []
theorem filter_ren (more : ByteArray) (ls : List LitD) : (ls.map (renL more)).filter (fun L => L.kind == 1) = (ls.filter fun L => L.kind == 1).map (renL more) := by
  rw [List.filter_map]
  rfl
theorem bound_ren (more : ByteArray) (body : List LitD) : boundOf (body.map (renL more)) = (boundOf body).map (· ++ more) := by
  unfold boundOf
  rw [filter_ren, flat_ren, once_ren]
theorem bound_flat (body : List LitD) : ((body.filter fun L => L.kind == 1).flatMap LitD.uses).length ≤ (body.flatMap LitD.uses).length := by
  induction body with
  | nil => simp
  | cons L ls ih =>
    rw [List.filter_cons]
    split
    · simp only [List.flatMap_cons, List.length_append]; omega
    · simp only [List.flatMap_cons, List.length_append]; omega
theorem loose_ren (more : ByteArray) (r : RuleD) : looseOf (renR more r) = (looseOf r).map (· ++ more) := by
  unfold looseOf
  rw [names_ren, List.find?_map]
  have : ((fun x => decide (x ∉ boundOf (renR more r).body)) ∘ fun x : ByteArray => x ++ more) = fun x => decide (x ∉ boundOf r.body) := by
    funext x
    have h : (renR more r).body = r.body.map (renL more) := rfl
    simp only [Function.comp, h, bound_ren, mem_ren]
  rw [this]
theorem way_ren (more : ByteArray) (body : List LitD) : wayD (body.map (renL more)) = wayD body := by
  have hd : ∀ i, i < body.length → (body.map (renL more)).getD i default = renL more (body.getD i default) := fun i hi => by
    simp [List.getD, List.getElem?_map, List.getElem?_eq_getElem hi]
  have hk : ∀ i, ((body.map (renL more)).getD i default).kind = (body.getD i default).kind := fun i => by
    rcases Nat.lt_or_ge i body.length with hi | hi
    · rw [hd i hi]; rfl
    · simp [List.getD, List.getElem?_map, List.getElem?_eq_none hi]
  unfold wayD
  rw [List.length_map]
  refine wayGo_ren (by simp) (fun i => by unfold litKind; rw [hk]) (fun i => by rw [hk]) (fun s s' => ∀ x, x ++ more ∈ s' ↔ x ∈ s) ?_ ?_ _ _ _ _ _ (fun x => by simp)
  · intro s s' i hi h
    rw [hd i hi]
    unfold readyD
    have hu : ((renL more (body.getD i default)).uses.all fun x => decide (x ∈ s')) = ((body.getD i default).uses.all fun x => decide (x ∈ s)) := by
      rw [uses_ren, List.all_map]
      congr 1
      funext x
      simp only [Function.comp, h x]
    rw [hu]
    rfl
  · intro s s' i hi h x
    rw [hd i hi, mem_addL, mem_addL, uses_ren, mem_ren, h x]
end Go.Proofs
