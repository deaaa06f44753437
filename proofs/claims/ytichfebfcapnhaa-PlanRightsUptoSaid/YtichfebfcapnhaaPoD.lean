/- Layer 16 (plan): the plan that the document names, evaluated. -/
import Derived.Test.YtichfebfcapnhaaPoC
namespace Go.Proofs
open Go.RowKit Go.Ink Go.Flt
set_option linter.unusedVariables false
def planL : PlanD := ⟨ruleS, [⟨1, [], [⟨#[89]⟩]⟩, ⟨2, [], []⟩, ⟨0, [1], [⟨#[88]⟩]⟩]⟩
theorem planL_made : makeD ruleS sizesL (-1) = (planL, 0) := by kernel_rfl
theorem planL_none : makeD ⟨ruleS.head, []⟩ [] (-1) = (noPlan, 14) := by kernel_rfl
theorem planL_rows : rowsD planL sizesL = [4620693217682128896, 4619792497756654797, 4624296097384025293] := by kernel_rfl
theorem planL_err : rowsErr planL sizesL = 0 := by kernel_rfl
theorem planL_right : rightB planL = true := by kernel_rfl
theorem planL_lits : planL.steps.map StepD.lit = [1, 2, 0] := by kernel_rfl
theorem planL_own {base : Nat} {w : World} {vh vb vs : Value} (h : PlanOwn base w vh vb vs planL) : PlanIn w.heap.size w vh vb vs planL :=
  ⟨h.1.rule ⟨by decide, by decide, fun L hL => by
    change L ∈ [_, _, _] at hL
    simp only [List.mem_cons, List.not_mem_nil, or_false] at hL
    rcases hL with rfl | rfl | rfl <;> decide⟩, h.2.steps ⟨by decide, fun s hs => by
    change s ∈ [_, _, _] at hs
    simp only [List.mem_cons, List.not_mem_nil, or_false] at hs
    rcases hs with rfl | rfl | rfl <;> decide⟩⟩
end Go.Proofs
