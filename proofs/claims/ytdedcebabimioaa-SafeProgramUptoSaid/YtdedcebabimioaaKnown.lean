/- inklinglaw12.known. -/
import Derived.Test.YtdedcebabimioaaProg
import Derived.Test.YtdedcebabimioaaRule
namespace Go.Proofs
open Go.RowKit Go.Ink
set_option linter.unusedVariables false
set_option linter.unusedSimpArgs false
attribute [local go_sem] Oper.semAt_some

def knownX : TermD := ⟨true, ⟨#[88]⟩⟩
def knownR (k : Int) : RuleD := ⟨⟨⟨#[112]⟩, [knownX]⟩, [⟨k, ⟨⟨#[113]⟩, [knownX]⟩, ⟨false, ⟨#[]⟩⟩, ⟨false, ⟨#[]⟩⟩⟩]⟩
theorem known1 : looseOf (knownR 1) = none := by decide +kernel
theorem known2 : looseOf (knownR 2) = some ⟨#[88]⟩ := by decide +kernel
theorem known_fits (k : Int) (hk : k = 1 ∨ k = 2) : ((knownR k).body.flatMap LitD.uses).length ≤ 1073741824 := by
  rcases hk with rfl | rfl <;> decide +kernel
theorem known_in {W : World} {B0 B1 : Nat} {k : Int} (h0 : W.heap[B0]? = some (.cells #[.bool true, .string ⟨#[88]⟩] 35 (0, 0)))
    (h1 : W.heap[B1]? = some (.cells #[.int .i64 k, .string ⟨#[113]⟩, .slice (some ⟨B0, 0, none⟩) 1 1, .bool false, .string ⟨#[]⟩, .bool false, .string ⟨#[]⟩] 37 (0, 0))) :
    RuleIn W.heap.size W (.slice (some ⟨B0, 0, none⟩) 1 1) (.slice (some ⟨B1, 0, none⟩) 1 1) (knownR k) := by
  have ht : TermsIn W.heap.size W (.slice (some ⟨B0, 0, none⟩) 1 1) [knownX] := ⟨_, 1, rfl, by simp, by simp [maxLen], fun j t hj => ⟨B0, 0, rfl, heap_lt h0, by
    cases j with
    | zero => simp at hj; subst hj; exact ⟨cells_of_block h0 0 _ rfl, cells_of_block h0 1 _ rfl⟩
    | succ j => simp at hj⟩⟩
  refine ⟨ht, ⟨_, 1, rfl, by simp [knownR], by simp [knownR, maxLen], fun j L hj => ⟨B1, 0, rfl, heap_lt h1, ?_⟩⟩⟩
  cases j with
  | zero => simp [knownR] at hj; subst hj; exact ⟨_, cells_of_block h1, ht⟩
  | succ j => simp [knownR] at hj

set_option maxRecDepth 100000 in
set_option maxHeartbeats 1000000 in
theorem known_any (w : World) : Calls Try.prog 8 #[] w fun e w' => e = .returned (.bool true) ∧ Keep (fun k => k < w.heap.size) w w' := by
  refine calls_of0 Try.func8 rfl ?_
  simp only [Try.ntmps8, List.size_toArray, List.length_cons, List.length_nil, Nat.reduceAdd, Nat.reduceSub, Array.replicate_succ, Array.replicate_zero, List.push_toArray, List.append_toArray, List.nil_append, List.cons_append]
  have hx : ((⟨#[88]⟩ : ByteArray) == ⟨#[88]⟩) = true := by decide +kernel
  have h0 : ((⟨#[]⟩ : ByteArray) == ⟨#[]⟩) = true := by decide +kernel
  gi_wp2
  refine ⟨trivial, rfl, callsIn_abs (fun W0 => Keep (fun _ => True) w W0 ∧ W0.heap.size = w.heap.size + 1 + 1 + 1 ∧ W0.heap[w.heap.size]? = some (.cells #[.bool true, .string ⟨#[88]⟩] 35 (0, 0)) ∧
     W0.heap[w.heap.size + 1]? = some (.cells #[.int .i64 1, .string ⟨#[113]⟩, .slice (some ⟨w.heap.size, 0, none⟩) 1 1, .bool false, .string ⟨#[]⟩, .bool false, .string ⟨#[]⟩] 37 (0, 0)) ∧
     W0.heap[w.heap.size + 1 + 1]? = some (.cells #[.string ⟨#[112]⟩, .slice (some ⟨w.heap.size, 0, none⟩) 1 1, .slice (some ⟨w.heap.size + 1, 0, none⟩) 1 1] 27 (0, 0)))
     ⟨((Keep.alloc _ _ _).trans (Keep.alloc _ _ _)).trans (Keep.alloc _ _ _), by simp, old_block (old_block (new_block _ _) _) _, old_block (by simpa using new_block (w.alloc _) _) _, by simpa using new_block ((w.alloc _).alloc _) _⟩ ?_⟩
  rintro W0 ⟨k0, s0, a0, a1, a2⟩
  refine (callsIn_wide.2 (rule_any (knownR 1) _ _ W0 (known_in a0 a1) (known_fits 1 (.inl rfl)))).mono ?_
  rintro e W1 ⟨rfl, k1⟩
  rw [known1]
  have z1 := k1.size
  have b0 := k1.heap a0 (by omega)
  have b1 := k1.heap a1 (by omega)
  have b2 := k1.heap a2 (by omega)
  have c0 := cells_of_block b2 0 _ rfl
  have c1 := cells_of_block b2 1 _ rfl
  have c2 := cells_of_block b2 2 _ rfl
  have l0 := cells_of_block b1 0 _ rfl
  have lf := box_free b1 0
  simp only [Nat.zero_add, Nat.add_zero] at c0 c1 c2 l0
  simp only [ruleAns]
  have kw : Keep (fun b => b < w.heap.size) w W1 := (k0.mono fun _ _ _ => trivial).trans (k1.mono fun b _ h => by omega)
  have Xk0 := Lib.hid k0
  have Xk1 := Lib.hid k1
  have Xa0 := Lib.hid a0
  have Xa1 := Lib.hid a1
  have Xa2 := Lib.hid a2
  have Xb0 := Lib.hid b0
  have Xb1 := Lib.hid b1
  have Xb2 := Lib.hid b2
  have Xkw := Lib.hid kw
  clear k0 k1 a0 a1 a2 b0 b1 b2 kw
  gi_wp2
  refine ⟨trivial, rfl, (callsIn_wide.2 (rule_any (knownR 2) _ _ _ (known_in ((Keep.setCell (C := fun b => b ≠ w.heap.size + 1) _ _ _ (by simp)).heap Xb0.out (by omega)) (set_at 0 _ Xb1.out)) (known_fits 2 (.inr rfl)))).mono ?_⟩
  rintro e W2 ⟨rfl, k2⟩
  rw [known2]
  simp only [ruleAns]
  have kw2 : Keep (fun b => b < w.heap.size) w W2 := (Xkw.out.trans (Keep.setCell _ _ _ (by simp))).trans (k2.mono fun b _ h => by simp [World.setCell]; omega)
  clear c0 c1 c2 l0 lf k2
  have Xkw2 := Lib.hid kw2
  clear kw2
  gi_wp2
  go_ret
  exact ⟨rfl, Xkw2.out⟩

end Go.Proofs
