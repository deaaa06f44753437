/- PROVED HERE: SafeRenamesUptoSaid: of any rule and text that are together of bulk at most 1048576 inklinglaw12.SafeRenames answers true, and what was handed in reads as it did. CONDITIONS: none beyond the bulk that the given statement names. -/
import Derived.Test.YtdedcebabimioaaRows
import Derived.Test.YtdedcebabimioaaRen
import Derived.Test.YtdedcebabimioaaRead
import Derived.Test.YtdedcebabimioaaEnds
import Derived.WalkKit
import Derived.ProofKit
import Derived.OpenShut
import Derived.JoinedCond
namespace Go.Proofs.Ytdedcebabimioaa.safeRenames
open Go.ChangeShapes Go.WideShapes Go.ChangeAt Go.RowKit Go.Ink
set_option linter.unusedVariables false
set_option linter.unusedSimpArgs false

theorem own : ownKnob Try.prog.godebug = none := by kernel_rfl
theorem laid : laidOutB Try.prog = true := by kernel_rfl

theorem flat_mem {ls : List LitD} {x : ByteArray} (h : x ∈ ls.flatMap LitD.uses) : ∃ L, L ∈ ls ∧ ∃ t, t ∈ L.terms ∧ t.text = x := by
  obtain ⟨L, hL, hx⟩ := List.mem_flatMap.1 h
  obtain ⟨t, ht, hx⟩ := List.mem_map.1 hx
  exact ⟨L, hL, t, (List.mem_filter.1 ht).1, hx⟩
theorem fine_terms {L : LitD} (h : FineL L) {t : TermD} (ht : t ∈ L.terms) : t.text.size ≤ 1048576 := by
  unfold LitD.terms at ht
  split at ht
  · exact h.1 t ht
  · split at ht
    · rcases List.mem_cons.1 ht with rfl | ht
      · exact h.2.1
      · rcases List.mem_cons.1 ht with rfl | ht
        · exact h.2.2
        · cases ht
    · cases ht
theorem fine_names {r : RuleD} (h : FineR r) {x : ByteArray} (hx : x ∈ r.names) : x.size ≤ 1048576 := by
  rw [names_eq] at hx
  rcases List.mem_append.1 hx with hx | hx
  · obtain ⟨t, ht, rfl⟩ := List.mem_map.1 hx
    have ht := (List.mem_filter.1 ht).1
    simp only [RuleD.headLit, LitD.terms, true_or, if_true] at ht
    exact h.1 t ht
  · obtain ⟨L, hL, t, ht, rfl⟩ := flat_mem hx
    exact fine_terms (h.2 L hL) ht

/-- WHAT THE WALK GIVES, where what is read is small. -/
theorem contract (H : Type) (enc : TypeId × Value → H) (W : World) (base : Nat) (args : Array Value) (ds gs : List (DataW H)) (before : List MemPlace)
    (hval : ∀ (j : Nat) t v, Try.f5.params[j]? = some t → args[j]? = some v → Value.okWide Try.prog W .any base t v)
    (hW : DataW.Whole enc Try.prog Try.f5.params.toList Rows.safeRenamesSpec.vars false W args.toList ds gs before) (hk : Rows.uptoSmall H (ds ++ gs) = true) :
    Calls Try.prog 5 args W fun e W' => ∃ v, e = .returned v ∧ Rows.safeRenamesSpec.post enc Try.prog Try.f5 false true false false W args v W' := by
  have hW' := hW
  obtain ⟨p, q, hA0, hV, rfl, hfz, hnd⟩ := hW
  have hA : DataW.TrodAll enc Try.prog W 0 (fun _ => true) true Try.f5.params.toList args.toList ds p := hA0
  rw [Try.params5] at hA hval
  obtain ⟨v0, vs0, d0, ds0, p0, q0, hargs, rfl, rfl, h0, r0⟩ := trodAll_cons hA
  obtain ⟨v1, vs1, d1, ds1, p1, q1, rfl, rfl, rfl, h1, r1⟩ := trodAll_cons r0
  obtain ⟨rfl, rfl, rfl⟩ := trodAll_nil r1
  obtain rfl : args = #[v0, v1] := by cases args; simp_all
  obtain ⟨rfl, rfl⟩ := trodVars_none hV
  clear hA0
  simp only [List.append_nil] at hk
  have hB : bulks [d0, d1] ≤ 1048576 := of_decide_eq_true hk
  rw [bulks_sum] at hB
  simp only [List.map_cons, List.map_nil, List.sum_cons, List.sum_nil] at hB
  obtain ⟨cs, rfl, hsz⟩ := okWide_struct Try.underlying27 (hval 0 27 v0 rfl rfl)
  obtain ⟨c0, c1, c2, rfl⟩ := Joins.array3 (hsz.trans cells_rule)
  obtain ⟨more, rfl⟩ := okWide_string Try.underlying9 (hval 1 9 v1 rfl rfl)
  obtain ⟨f0, h0⟩ := h0
  obtain ⟨f1, h1⟩ := h1
  obtain ⟨r, sh, sb, e0, hr, hrs, hfine⟩ := read_rule h0 (by simp only; omega)
  obtain ⟨more', e1, hy, _⟩ := DataW.trod_string Try.underlying9 h1
  have hms : more.size ≤ 1048576 := by
    simp only [Value.cells] at e1
    cases e1
    have hb : bulk d1 = more.size + 1 := by
      rw [(Prod.mk.inj hy).1]
      show more.data.toList.length + 1 = _
      rw [Array.length_toList]
      rfl
    omega
  simp only [Value.cells] at e0
  cases e0
  simp only [ruleSize] at hrs
  have hu := uses_sum r.body
  have hl := len_sum r.body
  have hnl : r.stands.length ≤ 1073741824 := by
    have h : r.names.length = r.stands.length := by simp [RuleD.names]
    rw [← h, names_eq, List.length_append]
    have := uses_le r.headLit
    simp only [RuleD.headLit] at this ⊢
    omega
  refine (safeRenames_walk r _ _ more W hr hnl (by omega) (by omega) (fun L hL t ht => by
      have := hfine.2 L hL
      have h : t.text.size ≤ 1048576 := by
        rcases List.mem_cons.1 ht with rfl | ht
        · exact this.2.1
        · rcases List.mem_cons.1 ht with rfl | ht
          · exact this.2.2
          · exact this.1 t ht
      omega) (fun t ht => by have h : t.text.size ≤ 1048576 := hfine.1 t ht; omega) (fun x hx => by have := fine_names hfine hx; omega)).mono fun e W' ⟨he, hK⟩ => ?_
  subst he
  exact ⟨_, rfl, post_below hW' rfl rfl (fun _ => trodAll_cons_mk (shut_bool Try.underlying4 _) trodAll_mk0) rfl laid
    (by rw [Try.params5]; intro t ht; simp only [List.mem_cons, List.not_mem_nil, or_false] at ht; rcases ht with rfl | rfl <;> exact ⟨by kernel_rfl, of_decide_eq_true (by kernel_rfl)⟩) (hK.below (Nat.le_refl _))⟩

set_option maxRecDepth 100000 in
theorem lifted (os : Os) (started : os.Started) (H : Type) (enc : TypeId × Value → H) (F : Stop.Interp) :
    ReturnsInHanded {} Try.checked os 5 .any ((Rows.OpenSpec.upto Rows.safeRenamesSpec).pre6 enc Try.prog Try.f5 Rows.safeRenamesUptoRow.domain false) (((Rows.OpenSpec.upto Rows.safeRenamesSpec).at F).post enc Try.prog Try.f5 false true false false) := by
  refine returnsInHanded_of_cond (C := Try.checked) (s := Rows.OpenSpec.upto Rows.safeRenamesSpec) (k := Rows.uptoSmall) rfl own started (by kernel_rfl) Try.func5
    (OpenSpec.witness (enc := enc) (C := Try.checked) (s := Rows.OpenSpec.upto Rows.safeRenamesSpec) (k := Rows.uptoSmall) rfl false ⟨#[], #[.agg #[.string .empty, .slice none 0 0, .slice none 0 0], .string .empty], []⟩ 8 (by kernel_rfl) (by kernel_rfl) (by kernel_rfl)
      (x := ([.agg [.agg [.lit (.string []), .nil], .nil], .lit (.string [])], [], [])) (by kernel_rfl) rfl (by kernel_rfl)) ?_
  intro W base args ds gs before hval hW _ hk _
  exact contract H enc W base args ds gs before hval hW hk

theorem proved : Rows.SafeRenamesUptoSaid :=
  OpenClaim.holds_of_cond 5 Try.f5 rfl rfl rfl rfl rfl rfl rfl ⟨rfl, rfl, rfl, rfl, rfl⟩ rfl rfl rfl rfl rfl (by kernel_rfl) Try.func5 (by kernel_rfl)
    (of_decide_eq_true (by kernel_rfl)) (by unfold Func.isWrapper; first | (rw [if_pos (by decide +kernel)]; kernel_rfl) | (rw [if_neg (by decide +kernel)]; exact ⟨rfl, rfl⟩))
    (fun os started H enc _ F => lifted os started H enc F)
end Go.Proofs.Ytdedcebabimioaa.safeRenames
