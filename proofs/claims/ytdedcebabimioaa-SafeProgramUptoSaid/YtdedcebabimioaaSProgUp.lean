/- PROVED HERE: SafeProgramUptoSaid: of any program of bulk at most 1048576 inklinglaw12.SafeProgram answers true, and what was handed in reads as it did. CONDITIONS: none beyond the bulk that the given statement names. -/
import Derived.Test.YtdedcebabimioaaRows
import Derived.Test.YtdedcebabimioaaSProg
import Derived.Test.YtdedcebabimioaaReadP
import Derived.Test.YtdedcebabimioaaRead
import Derived.Test.YtdedcebabimioaaEnds
import Derived.WalkKit
import Derived.ProofKit
import Derived.OpenShut
import Derived.JoinedCond
namespace Go.Proofs.Ytdedcebabimioaa.safeProgram
open Go.ChangeShapes Go.WideShapes Go.ChangeAt Go.RowKit Go.Ink
set_option linter.unusedVariables false
set_option linter.unusedSimpArgs false

theorem own : ownKnob Try.prog.godebug = none := by kernel_rfl
theorem laid : laidOutB Try.prog = true := by kernel_rfl

/-- WHAT THE WALK GIVES, where what is read is small. -/
theorem contract (H : Type) (enc : TypeId × Value → H) (W : World) (base : Nat) (args : Array Value) (ds gs : List (DataW H)) (before : List MemPlace)
    (hval : ∀ (j : Nat) t v, Try.f4.params[j]? = some t → args[j]? = some v → Value.okWide Try.prog W .any base t v)
    (hW : DataW.Whole enc Try.prog Try.f4.params.toList Rows.safeProgramSpec.vars false W args.toList ds gs before) (hk : Rows.uptoSmall H (ds ++ gs) = true) :
    Calls Try.prog 4 args W fun e W' => ∃ v, e = .returned v ∧ Rows.safeProgramSpec.post enc Try.prog Try.f4 false true false false W args v W' := by
  have hW' := hW
  obtain ⟨p, q, hA0, hV, rfl, hfz, hnd⟩ := hW
  have hA : DataW.TrodAll enc Try.prog W 0 (fun _ => true) true Try.f4.params.toList args.toList ds p := hA0
  rw [Try.params4] at hA hval
  obtain ⟨v0, vs0, d0, ds0, p0, q0, hargs, rfl, rfl, h0, r0⟩ := trodAll_cons hA
  obtain ⟨rfl, rfl, rfl⟩ := trodAll_nil r0
  obtain rfl : args = #[v0] := by cases args; simp_all
  obtain ⟨rfl, rfl⟩ := trodVars_none hV
  clear hA0
  simp only [List.append_nil] at hk
  have hB : bulks [d0] ≤ 1048576 := of_decide_eq_true hk
  rw [bulks_sum] at hB
  simp only [List.map_cons, List.map_nil, List.sum_cons, List.sum_nil] at hB
  obtain ⟨cs, rfl, hsz⟩ := okWide_struct Try.underlying45 (hval 0 45 v0 rfl rfl)
  obtain ⟨c0, c1, c2, rfl⟩ := Joins.array3 (hsz.trans cells_prog)
  obtain ⟨f0, h0⟩ := h0
  obtain ⟨p, vi, vo, vr, e0, hp, hps⟩ := read_prog h0 (by simp only; omega)
  simp only [Value.cells] at e0
  cases e0
  simp only at hps
  have hst := stands_sum p.rules
  refine (safeProgram_walk p _ _ _ W hp (fun r hr => by have h1 := size_mem hr; have h2 := fits_size r; unfold RuleFits; omega) (by omega) (fun r hr => slice_all (G := fun r : RuleD => r.head.args.length ≤ 1073741824 ∧ r.body.length ≤ 1073741824 ∧ ∀ L, L ∈ r.body → L.atom.args.length ≤ 1073741824) hp.r (fun _ _ _ h => rule_lens h) r hr)).mono fun e W' ⟨he, hK⟩ => ?_
  subst he
  exact ⟨_, rfl, post_below hW' rfl rfl (fun _ => trodAll_cons_mk (shut_bool Try.underlying4 _) trodAll_mk0) rfl laid
    (by rw [Try.params4]; intro t ht; simp only [List.mem_cons, List.not_mem_nil, or_false] at ht; subst ht; exact ⟨by kernel_rfl, of_decide_eq_true (by kernel_rfl)⟩) (hK.below (Nat.le_refl _))⟩

set_option maxRecDepth 100000 in
theorem lifted (os : Os) (started : os.Started) (H : Type) (enc : TypeId × Value → H) (F : Stop.Interp) :
    ReturnsInHanded {} Try.checked os 4 .any ((Rows.OpenSpec.upto Rows.safeProgramSpec).pre6 enc Try.prog Try.f4 Rows.safeProgramUptoRow.domain false) (((Rows.OpenSpec.upto Rows.safeProgramSpec).at F).post enc Try.prog Try.f4 false true false false) := by
  refine returnsInHanded_of_cond (C := Try.checked) (s := Rows.OpenSpec.upto Rows.safeProgramSpec) (k := Rows.uptoSmall) rfl own started (by kernel_rfl) Try.func4
    (OpenSpec.witness (enc := enc) (C := Try.checked) (s := Rows.OpenSpec.upto Rows.safeProgramSpec) (k := Rows.uptoSmall) rfl false ⟨#[], #[.agg #[.slice none 0 0, .slice none 0 0, .slice none 0 0]], []⟩ 8 (by kernel_rfl) (by kernel_rfl) (by kernel_rfl)
      (x := ([.agg [.nil, .nil, .nil]], [], [])) (by kernel_rfl) rfl (by kernel_rfl)) ?_
  intro W base args ds gs before hval hW _ hk _
  exact contract H enc W base args ds gs before hval hW hk

theorem proved : Rows.SafeProgramUptoSaid :=
  OpenClaim.holds_of_cond 4 Try.f4 rfl rfl rfl rfl rfl rfl rfl ⟨rfl, rfl, rfl, rfl, rfl⟩ rfl rfl rfl rfl rfl (by kernel_rfl) Try.func4 (by kernel_rfl)
    (of_decide_eq_true (by kernel_rfl)) (by unfold Func.isWrapper; first | (rw [if_pos (by decide +kernel)]; kernel_rfl) | (rw [if_neg (by decide +kernel)]; exact ⟨rfl, rfl⟩))
    (fun os started H enc _ F => lifted os started H enc F)
end Go.Proofs.Ytdedcebabimioaa.safeProgram
