/- Nine tenths of a double are no more than it; a double less itself is nothing. No program is named here. -/
import Derived.Test.YtichfebfcapnhaaFltC
namespace Go.Flt
open Ieee
set_option linter.unusedVariables false
set_option linter.unusedSimpArgs false

theorem V_word (j k : Nat) (h1 : 4503599627370496 ≤ k) (h2 : k ≤ 9007199254740992) : V (j * 4503599627370496 + k) = k * 2 ^ j := by
  unfold V mg sh
  rw [if_neg (by omega), if_neg (by omega)]
  rcases Nat.lt_or_ge k 9007199254740992 with h | h
  · have e1 : 4503599627370496 + (j * 4503599627370496 + k) % 4503599627370496 = k := by omega
    have e2 : (j * 4503599627370496 + k) / 4503599627370496 - 1 = j := by omega
    rw [e1, e2]
  · have e1 : 4503599627370496 + (j * 4503599627370496 + k) % 4503599627370496 = 4503599627370496 := by omega
    have e2 : (j * 4503599627370496 + k) / 4503599627370496 - 1 = j + 1 := by omega
    have e3 : k = 2 * 4503599627370496 := by omega
    rw [e1, e2, e3, Nat.pow_succ, Nat.mul_comm (2 ^ j) 2, ← Nat.mul_assoc, Nat.mul_comm 4503599627370496 2]
theorem V_small {c : Nat} (h : c < 9007199254740992) : V c = c := by
  rcases Nat.lt_or_ge c 4503599627370496 with h1 | h1
  · unfold V mg sh
    rw [if_pos h1, if_pos h1, Nat.pow_zero, Nat.mul_one]
  · have := V_word 0 c h1 (by omega)
    rwa [Nat.zero_mul, Nat.zero_add, Nat.pow_zero, Nat.mul_one] at this
/-- a word no less than a number, and hardly more -/
theorem word_above (N L : Nat) (h : N < 2 ^ (L + 1)) : ∃ c, N ≤ V c ∧ V c * 4503599627370496 ≤ N * 4503599627370496 + N ∧ c ≤ (L - 52) * 4503599627370496 + 9007199254740992 := by
  rcases Nat.lt_or_ge N 9007199254740992 with h1 | h1
  · exact ⟨N, by rw [V_small h1]; exact Nat.le_refl _, by rw [V_small h1]; omega, by omega⟩
  · have hn : N ≠ 0 := by omega
    obtain ⟨q, hq⟩ : ∃ q, N.log2 = q + 52 := ⟨N.log2 - 52, by
      have : 52 ≤ N.log2 := (Nat.le_log2 hn).2 (by rw [b52]; omega)
      omega⟩
    have hlo := log_le hn
    have hhi := log_lt N
    rw [hq] at hlo hhi
    have hqL : q ≤ L - 52 := by
      have : N.log2 < L + 1 := (Nat.log2_lt hn).2 h
      omega
    have hp := pow_pos q
    obtain ⟨P, hP⟩ : ∃ P, 2 ^ q = P := ⟨_, rfl⟩
    have e1 : 2 ^ (q + 52) = P * 4503599627370496 := by rw [Nat.pow_add, hP, b52]
    have e2 : 2 ^ (q + 52 + 1) = P * 9007199254740992 := by rw [Nat.add_assoc, Nat.pow_add, hP, show 2 ^ (52 + 1) = 9007199254740992 by decide]
    rw [e1] at hlo
    rw [e2] at hhi
    rw [hP] at hp
    clear e1 e2
    obtain ⟨k, hk⟩ : ∃ k, (N + (P - 1)) / P = k := ⟨_, rfl⟩
    have hk1 : N ≤ k * P := by
      have := Nat.div_add_mod (N + (P - 1)) P
      have hm := Nat.mod_lt (N + (P - 1)) hp
      rw [hk, Nat.mul_comm] at this
      omega
    have hk2 : k * P ≤ N + (P - 1) := by rw [← hk]; exact Nat.div_mul_le_self _ _
    have hk3 : 4503599627370496 ≤ k := by
      rcases Nat.lt_or_ge k 4503599627370496 with hl | hg
      · exfalso
        have := Nat.mul_lt_mul_of_pos_right hl hp
        rw [Nat.mul_comm 4503599627370496] at this
        omega
      · exact hg
    have hk4 : k ≤ 9007199254740992 := by
      rcases Nat.lt_or_ge 9007199254740992 k with hl | hg
      · exfalso
        have h5 : (9007199254740992 + 1) * P ≤ k * P := Nat.mul_le_mul_right _ hl
        rw [Nat.add_mul, Nat.one_mul, Nat.mul_comm 9007199254740992] at h5
        omega
      · exact hg
    refine ⟨q * 4503599627370496 + k, ?_, ?_, ?_⟩
    · rw [V_word q k hk3 hk4, hP]; exact hk1
    · rw [V_word q k hk3 hk4, hP]
      have h6 : k * P * 4503599627370496 ≤ (N + (P - 1)) * 4503599627370496 := Nat.mul_le_mul_right _ hk2
      refine Nat.le_trans h6 ?_
      rw [Nat.add_mul]
      exact Nat.add_le_add_left (Nat.le_trans (Nat.mul_le_mul_right _ (Nat.sub_le _ _)) hlo) _
    · exact Nat.add_le_add (Nat.mul_le_mul_right _ hqL) hk4
theorem fmul_up {a b c n u : Nat} (ha : a < 9218868437227405312) (hb : b < 9218868437227405312) (hc : c < 9218868437227405312) (hu : u = 1074) (hn : V b = n * 2 ^ u) (h : n * V a ≤ V c) : fmul a b ≤ c := by
  rw [fmul_near ha hb]
  have := near_mono (m1 := mg a * mg b) (m2 := mg c) (p1 := -1074 + (sh a : Int) + (-1074 + (sh b : Int))) (p2 := -1074 + (sh c : Int)) (K := -1074 + -1074) (by omega) (by omega) (by
    rw [show (-1074 + (sh a : Int) + (-1074 + (sh b : Int)) - (-1074 + -1074)).toNat = sh a + sh b by omega, show (-1074 + (sh c : Int) - (-1074 + -1074)).toNat = sh c + u by omega]
    have e1 : mg a * mg b * 2 ^ (sh a + sh b) = V a * V b := by
      unfold V
      rw [Nat.pow_add, Nat.mul_assoc, Nat.mul_assoc, Nat.mul_left_comm (mg b)]
    have e2 : mg c * 2 ^ (sh c + u) = V c * 2 ^ u := by
      unfold V
      rw [Nat.pow_add, Nat.mul_assoc]
    rw [e1, e2, hn, ← Nat.mul_assoc, Nat.mul_comm (V a)]
    exact Nat.mul_le_mul_right _ h)
  rwa [near_read hc] at this
theorem V_nine (u : Nat) (hu : u = 1074) : V 4621256167635550208 = 9 * 2 ^ u := by
  have h1 : mg 4621256167635550208 = 9 * 2 ^ 49 := by decide
  have h2 : sh 4621256167635550208 = 1025 := by decide
  unfold V
  rw [h1, Nat.mul_assoc, ← Nat.pow_add, show 49 + sh 4621256167635550208 = u by omega]
theorem V_ten (u : Nat) (hu : u = 1074) : V 4621819117588971520 = 10 * 2 ^ u := by
  have h1 : mg 4621819117588971520 = 10 * 2 ^ 49 := by decide
  have h2 : sh 4621819117588971520 = 1025 := by decide
  unfold V
  rw [h1, Nat.mul_assoc, ← Nat.pow_add, show 49 + sh 4621819117588971520 = u by omega]
theorem tenths_self {a : Nat} (h : a ≤ 9094988921128908188) : tenths a ≤ a := by
  obtain ⟨u, hu⟩ : ∃ u : Nat, u = 1074 := ⟨_, rfl⟩
  have hcc := V_le (b := 9094988921128908188) (by decide) h
  have hlim : 9 * V a < 2 ^ (2074 + 1) := by
    have h1 : mg 9094988921128908188 < 2 ^ 53 := by decide
    obtain ⟨x, hx⟩ : ∃ x, x = 2018 := ⟨_, rfl⟩
    have h2 : sh 9094988921128908188 = x := by rw [hx]; decide
    have h3 : V 9094988921128908188 ≤ 2 ^ 53 * 2 ^ x := by
      unfold V
      rw [h2]
      exact Nat.mul_le_mul_right _ (Nat.le_of_lt h1)
    have h4 : 2 ^ (2074 + 1) = 16 * (2 ^ 53 * 2 ^ x) := by
      rw [show (16 : Nat) = 2 ^ 4 by decide, ← Nat.pow_add, ← Nat.pow_add]
      congr 1
      omega
    rw [h4]
    have h5 := pow_pos x
    have h6 : 0 < 2 ^ 53 * 2 ^ x := Nat.mul_pos (by decide) h5
    omega
  obtain ⟨c, hc1, hc2, hc3⟩ := word_above (9 * V a) 2074 hlim
  have hc : c < 9218868437227405312 := by omega
  clear hlim
  have h10 : V c ≤ 10 * V a := by
    have h9 : 9 * V a ≤ V a * 4503599627370496 := by rw [Nat.mul_comm 9]; exact Nat.mul_le_mul_left _ (by decide)
    have : V c * 4503599627370496 ≤ (10 * V a) * 4503599627370496 := by
      rw [show 10 * V a = 9 * V a + V a from by rw [Nat.add_mul 9 1 (V a), Nat.one_mul], Nat.add_mul]
      exact Nat.le_trans hc2 (Nat.add_le_add_left h9 _)
    exact Nat.le_of_mul_le_mul_right this (by decide)
  have hm := fmul_up (a := a) (b := 4621256167635550208) (c := c) (n := 9) (by omega) (by decide) hc hu (V_nine u hu) hc1
  have hv := V_le hc hm
  unfold tenths
  refine fdiv_le (mul9_fin h) (by decide) (by omega) (by decide) u hu ?_
  rw [V_ten u hu]
  have h8 : V (fmul a 4621256167635550208) * 2 ^ u ≤ (10 * V a) * 2 ^ u := Nat.mul_le_mul_right _ (Nat.le_trans hv h10)
  rwa [Nat.mul_right_comm] at h8
end Go.Flt
