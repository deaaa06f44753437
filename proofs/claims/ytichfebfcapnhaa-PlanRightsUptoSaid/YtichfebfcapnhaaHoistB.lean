/- A region that draws its order, where two operations may come up. No program is named here. -/
import Derived.Test.YtichfebfcapnhaaHoist
namespace Go.Ink
open Go.RowKit
set_option linter.unusedVariables false
set_option linter.unusedSimpArgs false
section
variable {P : Program} {ops : Array Oper} {Q : Exit → Act → World → Prop} {md : Region.Mode} {S : World → Prop} {late : List Nat}

theorem wpOp_of_list {i : Nat} {oi : Oper} {a : Act} {w : World} {K : Act → World → Prop} (hi : ops[i]? = some oi) (h1 : wpList P ops (Exit.then K Q) [oi] a w) : wpOp P ops Q i K a w := by
  unfold wpOp
  rw [hi]
  unfold wpList at h1
  simp only at h1 ⊢
  split
  · rename_i hw
    rw [if_pos hw] at h1
    rcases h1 with h1 | h1
    · refine .inl ?_
      unfold Oper.wp at h1 ⊢
      generalize (execOp a.eval oi).run P w = r at h1 ⊢
      cases r with
      | ok n w' =>
        cases n <;> simp only [Oper.upon] at h1 ⊢
        case value u => exact h1
        case skip => exact h1
        case defer d => exact h1
        case enter f args => exact Calls.mono h1 fun e w'' he => by cases e <;> exact he
        case row row args => exact Rows.mono h1 fun u w'' he => he
      | halt x w' => cases x <;> simp only [Oper.upon] at h1 ⊢; exact h1
    · exact .inr h1
  · rename_i hw
    rw [if_neg hw] at h1
    exact h1

/-- Numbers i and j alone may come up: two ways. -/
theorem hoist_two {i j : Nat} {oi oj : Oper} {fuel : Nat} {listed : Array Bool} {a : Act} {w : World} (hi : ops[i]? = some oi) (hj : ops[j]? = some oj) (hr : Region.ready md ops listed = [i, j])
    (h1 : ∀ K : Act → World → Prop, (∀ a' w', (late.contains i = false → S w') → wpAnyL P md ops Q S late fuel (listed.setIfInBounds i true) a' w' → K a' w') → wpList P ops (Exit.then K Q) [oi] a w)
    (h2 : ∀ K : Act → World → Prop, (∀ a' w', (late.contains j = false → S w') → wpAnyL P md ops Q S late fuel (listed.setIfInBounds j true) a' w' → K a' w') → wpList P ops (Exit.then K Q) [oj] a w) :
    wpAnyL P md ops Q S late (fuel + 1) listed a w := by
  refine ⟨fun h0 => (by rw [hr] at h0; cases h0), fun k hk => ?_⟩
  rw [hr] at hk
  rcases List.mem_cons.1 hk with rfl | hk
  · exact wpOp_of_list hi (h1 (fun a' w' => (late.contains k = false → S w') ∧ wpAnyL P md ops Q S late fuel (listed.setIfInBounds k true) a' w') (fun a' w' x y => ⟨x, y⟩))
  · rcases List.mem_cons.1 hk with rfl | hk
    · exact wpOp_of_list hj (h2 (fun a' w' => (late.contains k = false → S w') ∧ wpAnyL P md ops Q S late fuel (listed.setIfInBounds k true) a' w') (fun a' w' x y => ⟨x, y⟩))
    · cases hk
end
end Go.Ink
