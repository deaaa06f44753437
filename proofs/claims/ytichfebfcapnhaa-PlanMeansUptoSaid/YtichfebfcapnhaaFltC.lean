/- Sums of doubles keep the order and stay finite. No program is named here. -/
import Derived.Test.YtichfebfcapnhaaFltBToPnN
namespace Go.Flt
set_option linter.unusedVariables false
theorem fadd_mono {a b a' b' : Nat} (ha : a' < 9218868437227405312) (hb : b' < 9218868437227405312) (h1 : a ≤ a') (h2 : b ≤ b') : fadd a b ≤ fadd a' b' := by
  obtain ⟨k, k1, k2, h⟩ := add_near (a := a) (b := b) (by omega) (by omega)
  obtain ⟨k', k1', k2', h'⟩ := add_near ha hb
  unfold fadd
  rw [h, h']
  have hv : ∀ (x k : Nat), k ≤ sh x → mg x * 2 ^ (sh x - k) * 2 ^ k = V x := fun x k hk => by
    unfold V
    rw [Nat.mul_assoc, ← Nat.pow_add, show sh x - k + k = sh x by omega]
  refine near_mono (K := -1074) (by omega) (by omega) ?_
  rw [show (-1074 + (k : Int) - -1074).toNat = k by omega, show (-1074 + (k' : Int) - -1074).toNat = k' by omega, Nat.add_mul, Nat.add_mul, hv a k k1, hv b k k2, hv a' k' k1', hv b' k' k2']
  have e1 := V_le ha h1
  have e2 := V_le hb h2
  omega
/-- the greatest sum of k rows -/
def most : Nat → Nat
  | 0 => 0
  | k + 1 => fadd (most k) 9094988921128908188
def mostOk : Nat → Nat → Bool
  | 0, a => decide (a < 9218868437227405312)
  | n + 1, a => decide (a < 9218868437227405312) && mostOk n (fadd a 9094988921128908188)
theorem most_ok : mostOk 256 0 = true := by decide +kernel
theorem mostOk_at {n : Nat} {a : Nat} (h : mostOk n a = true) : ∀ k, k ≤ n → ∀ b, a = most b → most (b + k) < 9218868437227405312 := by
  induction n generalizing a with
  | zero =>
    intro k hk b hb
    obtain rfl : k = 0 := by omega
    unfold mostOk at h
    rw [Nat.add_zero, ← hb]
    exact of_decide_eq_true h
  | succ n ih =>
    intro k hk b hb
    unfold mostOk at h
    rw [Bool.and_eq_true, decide_eq_true_eq] at h
    cases k with
    | zero => rw [Nat.add_zero, ← hb]; exact h.1
    | succ k =>
      have := ih h.2 k (by omega) (b + 1) (by rw [hb]; rfl)
      rwa [show b + (k + 1) = b + 1 + k by omega]
theorem most_fin {k : Nat} (hk : k ≤ 256) : most k < 9218868437227405312 := by
  have := mostOk_at most_ok k hk 0 rfl
  rwa [Nat.zero_add] at this
theorem sum_most {s x k : Nat} (hk : k ≤ 256) (hs : s ≤ most k) (hx : x ≤ 9094988921128908188) : fadd s x ≤ most (k + 1) := fadd_mono (most_fin hk) (by decide) hs hx
theorem gtr_fin {a b : Nat} (ha : a < 9218868437227405312) (hb : b < 9218868437227405312) : (FloatKind.f64.format.order a b == some .gt) = decide (b < a) := by
  have : FloatKind.f64.format.order a b = some (compare a b) := order_eq ha hb
  rw [this]
  have e : compare a b = if a < b then .lt else if a = b then .eq else .gt := rfl
  rw [e]
  rcases Nat.lt_trichotomy a b with h | h | h
  · rw [if_pos h, decide_eq_false (by omega)]; rfl
  · rw [if_neg (show ¬ a < b by omega), if_pos h, decide_eq_false (by omega)]; rfl
  · rw [if_neg (show ¬ a < b by omega), if_neg (show ¬ a = b by omega), decide_eq_true h]; rfl
theorem lss_fin {a b : Nat} (ha : a < 9218868437227405312) (hb : b < 9218868437227405312) : (FloatKind.f64.format.order a b == some .lt) = decide (a < b) := by
  have : FloatKind.f64.format.order a b = some (compare a b) := order_eq ha hb
  rw [this]
  have e : compare a b = if a < b then .lt else if a = b then .eq else .gt := rfl
  rw [e]
  rcases Nat.lt_trichotomy a b with h | h | h
  · rw [if_pos h, decide_eq_true h]; rfl
  · rw [if_neg (show ¬ a < b by omega), if_pos h, decide_eq_false (by omega)]; rfl
  · rw [if_neg (show ¬ a < b by omega), if_neg (show ¬ a = b by omega), decide_eq_false (by omega)]; rfl
theorem geq_zero {a : Nat} (ha : a < 9218868437227405312) : (FloatKind.f64.format.order a 0 == some .gt || FloatKind.f64.format.order a 0 == some .eq) = true := by
  have : FloatKind.f64.format.order a 0 = some (compare a 0) := order_eq ha (by decide)
  rw [this]
  have e : compare a 0 = if a < 0 then .lt else if a = 0 then .eq else .gt := rfl
  rw [e, if_neg (by omega)]
  by_cases h : a = 0
  · rw [if_pos h]; rfl
  · rw [if_neg h]; rfl
/-- -1 -/
theorem neg_lss : (FloatKind.f64.format.order 13830554455654793216 0 == some .lt) = true := by decide +kernel
theorem neg_geq : (FloatKind.f64.format.order 13830554455654793216 0 == some .gt || FloatKind.f64.format.order 13830554455654793216 0 == some .eq) = false := by decide +kernel
end Go.Flt
