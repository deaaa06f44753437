/- A double less itself is nothing. No program is named here. -/
import Derived.Test.YtichfebfcapnhaaFltD
namespace Go.Flt
open Ieee
set_option linter.unusedVariables false
set_option linter.unusedSimpArgs false
theorem sub_self {a : Nat} (ha : a < 9218868437227405312) : D.sub a a = some 0 := by
  unfold Format.sub
  rw [read_eq ha]
  have : (Datum.number false (mg a) (-1074 + (sh a : Int))).sum (Datum.number false (mg a) (-1074 + (sh a : Int))).opposite = some (Datum.number false 0 (-1074 + (sh a : Int))) := by
    unfold Datum.opposite Datum.sum signed
    simp [Nat.shiftLeft_eq, Int.add_right_neg]
  rw [this]
  rfl
theorem leq_fin {a b : Nat} (ha : a < 9218868437227405312) (hb : b < 9218868437227405312) : (FloatKind.f64.format.order a b == some .lt || FloatKind.f64.format.order a b == some .eq) = decide (a ≤ b) := by
  have : FloatKind.f64.format.order a b = some (compare a b) := order_eq ha hb
  rw [this]
  have e : compare a b = if a < b then .lt else if a = b then .eq else .gt := rfl
  rw [e]
  rcases Nat.lt_trichotomy a b with h | h | h
  · rw [if_pos h, decide_eq_true (by omega)]; rfl
  · rw [if_neg (by omega), if_pos h, decide_eq_true (by omega)]; rfl
  · rw [if_neg (by omega), if_neg (by omega), decide_eq_false (by omega)]; rfl
end Go.Flt
