/- PROVED HERE: SafeMoreUptoSaid: of any rule, literals and marks that are together of bulk at most 1048576 inklinglaw12.SafeMore answers true, and what was handed in reads as it did. CONDITIONS: none beyond the bulk that the given statement names. -/
import Derived.Test.YtdedcebabimioaaRows
import Derived.Test.YtdedcebabimioaaMore
import Derived.Test.YtdedcebabimioaaEnds
import Derived.WalkKit
import Derived.ProofKit
import Derived.OpenShut
import Derived.JoinedCond
namespace Go.Proofs.Ytdedcebabimioaa.safeMore
open Go.ChangeShapes Go.WideShapes Go.ChangeAt Go.RowKit Go.Ink
set_option linter.unusedVariables false
set_option linter.unusedSimpArgs false

theorem own : ownKnob Try.prog.godebug = none := by kernel_rfl
theorem laid : laidOutB Try.prog = true := by kernel_rfl

theorem mix_uses (body more : List LitD) (out : List Bool) : ∀ k, k ≤ body.length → ((mixTo body more out k).flatMap LitD.uses).length ≤ ((body.take k).flatMap LitD.uses).length + ((more.take k).flatMap LitD.uses).length := by
  intro k
  induction k with
  | zero => intro _; simp [mixTo]
  | succ k ih =>
    intro hk
    have h := ih (by omega)
    have hb : body[k]? = some (body.getD k default) := by simp [List.getD, List.getElem?_eq_getElem (show k < body.length by omega)]
    have h1 : ((mixAt more out k (body.getD k default)).flatMap LitD.uses).length ≤ (more[k]?.toList.flatMap LitD.uses).length + (body.getD k default).uses.length := by
      unfold mixAt
      rw [List.flatMap_append, List.length_append]
      refine Nat.add_le_add ?_ ?_
      · cases more[k]? with
        | none => simp
        | some M => simp only; split <;> simp
      · split <;> simp
    simp only [mixTo, List.take_add_one, hb, List.flatMap_append, List.length_append, Option.toList_some, List.flatMap_singleton]
    omega

theorem take_uses (ls : List LitD) (k : Nat) : ((ls.take k).flatMap LitD.uses).length ≤ (ls.flatMap LitD.uses).length := by
  conv => rhs; rw [← List.take_append_drop k ls]
  rw [List.flatMap_append, List.length_append]
  omega

/-- WHAT THE WALK GIVES, where what is read is small. -/
theorem contract (H : Type) (enc : TypeId × Value → H) (W : World) (base : Nat) (args : Array Value) (ds gs : List (DataW H)) (before : List MemPlace)
    (hval : ∀ (j : Nat) t v, Try.f3.params[j]? = some t → args[j]? = some v → Value.okWide Try.prog W .any base t v)
    (hW : DataW.Whole enc Try.prog Try.f3.params.toList Rows.safeMoreSpec.vars false W args.toList ds gs before) (hk : Rows.uptoSmall H (ds ++ gs) = true) :
    Calls Try.prog 3 args W fun e W' => ∃ v, e = .returned v ∧ Rows.safeMoreSpec.post enc Try.prog Try.f3 false true false false W args v W' := by
  have hW' := hW
  obtain ⟨p, q, hA0, hV, rfl, hfz, hnd⟩ := hW
  have hA : DataW.TrodAll enc Try.prog W 0 (fun _ => true) true Try.f3.params.toList args.toList ds p := hA0
  rw [Try.params3] at hA hval
  obtain ⟨v0, vs0, d0, ds0, p0, q0, hargs, rfl, rfl, h0, r0⟩ := trodAll_cons hA
  obtain ⟨v1, vs1, d1, ds1, p1, q1, rfl, rfl, rfl, h1, r1⟩ := trodAll_cons r0
  obtain ⟨v2, vs2, d2, ds2, p2, q2, rfl, rfl, rfl, h2, r2⟩ := trodAll_cons r1
  obtain ⟨rfl, rfl, rfl⟩ := trodAll_nil r2
  obtain rfl : args = #[v0, v1, v2] := by cases args; simp_all
  obtain ⟨rfl, rfl⟩ := trodVars_none hV
  clear hA0
  simp only [List.append_nil] at hk
  have hB : bulks [d0, d1, d2] ≤ 1048576 := of_decide_eq_true hk
  rw [bulks_sum] at hB
  simp only [List.map_cons, List.map_nil, List.sum_cons, List.sum_nil] at hB
  obtain ⟨cs, rfl, hsz⟩ := okWide_struct Try.underlying27 (hval 0 27 v0 rfl rfl)
  obtain ⟨c0, c1, c2, rfl⟩ := Joins.array3 (hsz.trans cells_rule)
  obtain ⟨a1, l1, cp1, rfl⟩ := okWide_slice Try.underlying25 (hval 1 25 v1 rfl rfl)
  obtain ⟨a2, l2, cp2, rfl⟩ := okWide_slice Try.underlying28 (hval 2 28 v2 rfl rfl)
  obtain ⟨f0, h0⟩ := h0
  obtain ⟨f1, h1⟩ := h1
  obtain ⟨f2, h2⟩ := h2
  obtain ⟨r, sh, sb, e0, hr, hrs⟩ := read_rule h0 (by simp only; omega)
  obtain ⟨x1, ls, e1, hls, hlss⟩ := read_lits h1 (by simp only; omega)
  obtain ⟨x2, bs, e2, hbs⟩ := read_bools h2 (by simp only; omega)
  simp only [Value.cells] at e0 e1 e2
  cases e0
  cases e1
  cases e2
  simp only [ruleSize] at hrs hlss
  have hu := uses_sum r.body
  have hu2 := uses_sum ls
  have hl := len_sum r.body
  refine (safeMore_walk r _ _ _ _ ls bs W hr hls hbs (by unfold RuleFits; omega) (fun k hk => by
      have := mix_uses r.body ls bs k hk
      have := take_uses r.body k
      have := take_uses ls k
      omega) (by omega) (fun L hL => by have := args_sum hL; omega)).mono fun e W' ⟨he, hK⟩ => ?_
  subst he
  exact ⟨_, rfl, post_below hW' rfl rfl (fun _ => trodAll_cons_mk (shut_bool Try.underlying4 _) trodAll_mk0) rfl laid
    (by rw [Try.params3]; intro t ht; simp only [List.mem_cons, List.not_mem_nil, or_false] at ht; rcases ht with rfl | rfl | rfl <;> exact ⟨by kernel_rfl, of_decide_eq_true (by kernel_rfl)⟩) (hK.below (Nat.le_refl _))⟩

set_option maxRecDepth 100000 in
theorem lifted (os : Os) (started : os.Started) (H : Type) (enc : TypeId × Value → H) (F : Stop.Interp) :
    ReturnsInHanded {} Try.checked os 3 .any ((Rows.OpenSpec.upto Rows.safeMoreSpec).pre6 enc Try.prog Try.f3 Rows.safeMoreUptoRow.domain false) (((Rows.OpenSpec.upto Rows.safeMoreSpec).at F).post enc Try.prog Try.f3 false true false false) := by
  refine returnsInHanded_of_cond (C := Try.checked) (s := Rows.OpenSpec.upto Rows.safeMoreSpec) (k := Rows.uptoSmall) rfl own started (by kernel_rfl) Try.func3
    (OpenSpec.witness (enc := enc) (C := Try.checked) (s := Rows.OpenSpec.upto Rows.safeMoreSpec) (k := Rows.uptoSmall) rfl false ⟨#[], #[.agg #[.string .empty, .slice none 0 0, .slice none 0 0], .slice none 0 0, .slice none 0 0], []⟩ 8 (by kernel_rfl) (by kernel_rfl) (by kernel_rfl)
      (x := ([.agg [.agg [.lit (.string []), .nil], .nil], .nil, .nil], [], [])) (by kernel_rfl) rfl (by kernel_rfl)) ?_
  intro W base args ds gs before hval hW _ hk _
  exact contract H enc W base args ds gs before hval hW hk

theorem proved : Rows.SafeMoreUptoSaid :=
  OpenClaim.holds_of_cond 3 Try.f3 rfl rfl rfl rfl rfl rfl rfl ⟨rfl, rfl, rfl, rfl, rfl⟩ rfl rfl rfl rfl rfl (by kernel_rfl) Try.func3 (by kernel_rfl)
    (of_decide_eq_true (by kernel_rfl)) (by unfold Func.isWrapper; first | (rw [if_pos (by decide +kernel)]; kernel_rfl) | (rw [if_neg (by decide +kernel)]; exact ⟨rfl, rfl⟩))
    (fun os started H enc _ F => lifted os started H enc F)
end Go.Proofs.Ytdedcebabimioaa.safeMore
