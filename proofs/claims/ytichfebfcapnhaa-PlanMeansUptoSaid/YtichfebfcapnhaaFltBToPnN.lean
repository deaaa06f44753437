/- Doubles that are not negative: order, product, quotient, sum, the lesser of two. No program is named here. -/
import Derived.Test.YtichfebfcapnhaaFlt
import Derived.Test.YtichfebfcapnhaaProg
import Derived.Test.YtichfebfcapnhaaPnK
import Derived.Test.YtichfebfcapnhaaPnHToPnI
namespace Go.Flt
open Ieee
set_option linter.unusedVariables false
set_option linter.unusedSimpArgs false

/-- a word's number, in units of the least -/
def V (a : Nat) : Nat := mg a * 2 ^ sh a
theorem V_pos {a : Nat} (h : 0 < a) : 0 < V a := Nat.mul_pos (by have := mg_pos h; omega) (pow_pos _)
theorem V_zero : V 0 = 0 := by decide
theorem le_of_V {a b : Nat} (ha : a < 9218868437227405312) (hb : b < 9218868437227405312) (h : V a ≤ V b) : a ≤ b := by
  have := near_mono (m1 := mg a) (m2 := mg b) (p1 := -1074 + (sh a : Int)) (p2 := -1074 + (sh b : Int)) (K := -1074) (by omega) (by omega) (by
    rw [show (-1074 + (sh a : Int) - -1074).toNat = sh a by omega, show (-1074 + (sh b : Int) - -1074).toNat = sh b by omega]
    exact h)
  rwa [near_read ha, near_read hb] at this
theorem V_lt {a b : Nat} (hb : b < 9218868437227405312) (h : a < b) : V a < V b := by
  rcases Nat.lt_or_ge (V a) (V b) with hl | hg
  · exact hl
  · have := le_of_V hb (by omega) hg
    omega
theorem V_le {a b : Nat} (hb : b < 9218868437227405312) (h : a ≤ b) : V a ≤ V b := by
  rcases Nat.lt_or_ge a b with hl | hg
  · exact Nat.le_of_lt (V_lt hb hl)
  · obtain rfl : a = b := by omega
    exact Nat.le_refl _
theorem cmp_nat (x y : Nat) (a b : Nat) (h1 : a < b → x < y) (h2 : b < a → y < x) (h3 : a = b → x = y) : compare (x : Int) (y : Int) = compare a b := by
  simp only [compare, compareOfLessAndEq]
  rcases Nat.lt_trichotomy a b with h | h | h
  · rw [if_pos h, if_pos (by have := h1 h; omega)]
  · have := h3 h
    rw [if_neg (show ¬ (x : Int) < y by omega), if_pos (show (x : Int) = y by omega), if_neg (show ¬ a < b by omega), if_pos h]
  · have := h2 h
    rw [if_neg (show ¬ (x : Int) < y by omega), if_neg (show ¬ (x : Int) = y by omega), if_neg (show ¬ a < b by omega), if_neg (show ¬ a = b by omega)]
theorem cmp_self (a : Nat) : compare a a = .eq := by simp [compare, compareOfLessAndEq]
theorem scale (m i k : Nat) : m * 2 ^ (i - k) * 2 ^ k = m * 2 ^ (i - k + k) := by rw [Nat.mul_assoc, ← Nat.pow_add]
theorem order_eq {a b : Nat} (ha : a < 9218868437227405312) (hb : b < 9218868437227405312) : D.order a b = some (compare a b) := by
  unfold Format.order
  rw [read_eq ha, read_eq hb]
  unfold Datum.order signed
  simp only [Bool.false_eq_true, if_false, Nat.shiftLeft_eq]
  obtain ⟨k, hk⟩ : ∃ k, k = min (sh a) (sh b) := ⟨_, rfl⟩
  have e1 : (-1074 + (sh a : Int) - min (-1074 + (sh a : Int)) (-1074 + (sh b : Int))).toNat = sh a - k := by omega
  have e2 : (-1074 + (sh b : Int) - min (-1074 + (sh a : Int)) (-1074 + (sh b : Int))).toNat = sh b - k := by omega
  rw [e1, e2]
  have va : V a = mg a * 2 ^ (sh a - k) * 2 ^ k := by rw [scale]; unfold V; rw [show sh a - k + k = sh a by omega]
  have vb : V b = mg b * 2 ^ (sh b - k) * 2 ^ k := by rw [scale]; unfold V; rw [show sh b - k + k = sh b by omega]
  have p := pow_pos k
  refine congrArg some (cmp_nat _ _ _ _ (fun h => ?_) (fun h => ?_) (fun h => ?_))
  · have := V_lt hb h
    rw [va, vb] at this
    exact Nat.lt_of_mul_lt_mul_right this
  · have := V_lt ha h
    rw [va, vb] at this
    exact Nat.lt_of_mul_lt_mul_right this
  · subst h; rfl
theorem order_inf {b : Nat} (hb : b < 9218868437227405312) : D.order 9218868437227405312 b = some .gt := by
  unfold Format.order
  rw [read_inf, read_eq hb]
  rfl
theorem order_self {a : Nat} (ha : a ≤ 9218868437227405312) : D.order a a = some .eq := by
  rcases Nat.lt_or_ge a 9218868437227405312 with h | h
  · rw [order_eq h h, cmp_self]
  · obtain rfl : a = 9218868437227405312 := by omega
    decide

/-- products, quotients, sums -/
def fmul (a b : Nat) : Nat := (D.mul a b).getD 0
def fdiv (a b : Nat) : Nat := (D.div a b).getD 0
def fadd (a b : Nat) : Nat := (D.add a b).getD 0
def ofInt (n : Int) : Nat := FloatKind.f64.nearest n
theorem mul_near {a b : Nat} (ha : a < 9218868437227405312) (hb : b < 9218868437227405312) : D.mul a b = some (near (mg a * mg b) (-1074 + sh a + (-1074 + sh b))) := by
  unfold Format.mul
  rw [read_eq ha, read_eq hb]
  rfl
theorem mul_ok {a b : Nat} (ha : a < 9218868437227405312) (hb : b < 9218868437227405312) : D.mul a b = some (fmul a b) := by
  unfold fmul
  rw [mul_near ha hb]
  rfl
theorem fmul_near {a b : Nat} (ha : a < 9218868437227405312) (hb : b < 9218868437227405312) : fmul a b = near (mg a * mg b) (-1074 + sh a + (-1074 + sh b)) := by
  unfold fmul
  rw [mul_near ha hb]
  rfl
theorem fmul_inf {a b : Nat} (ha : a < 9218868437227405312) (hb : b < 9218868437227405312) : fmul a b ≤ 9218868437227405312 := by rw [fmul_near ha hb]; exact near_inf _ _
theorem fmul_mono {a a' b : Nat} (ha : a' < 9218868437227405312) (hb : b < 9218868437227405312) (h : a ≤ a') : fmul a b ≤ fmul a' b := by
  rw [fmul_near (by omega) hb, fmul_near ha hb]
  refine near_mono (K := -1074 + (-1074 + (sh b : Int))) (by omega) (by omega) ?_
  rw [show (-1074 + (sh a : Int) + (-1074 + (sh b : Int)) - (-1074 + (-1074 + (sh b : Int)))).toNat = sh a by omega, show (-1074 + (sh a' : Int) + (-1074 + (sh b : Int)) - (-1074 + (-1074 + (sh b : Int)))).toNat = sh a' by omega]
  rw [Nat.mul_right_comm, Nat.mul_right_comm (mg a')]
  exact Nat.mul_le_mul_right _ (V_le ha h)

theorem ofInt_near {n : Int} (h : 0 ≤ n) : ofInt n = near n.toNat 0 := by
  unfold ofInt FloatKind.nearest FloatKind.encode FloatKind.format near Format.write
  rw [decide_eq_false (show ¬ n < 0 by omega), show n.natAbs = n.toNat by omega]
theorem ofInt_fin {n : Int} (h : 0 ≤ n) (h2 : n ≤ 2147483647) : ofInt n < 9218868437227405312 := by
  rw [ofInt_near h]
  refine Nat.lt_of_le_of_lt (near_mono (m2 := 2147483647) (p2 := 0) (K := 0) (by omega) (by omega) ?_) (show near 2147483647 0 < _ by decide)
  simp
  omega
theorem ofInt_one {n : Int} (h : 1 ≤ n) : 4607182418800017408 ≤ ofInt n := by
  rw [ofInt_near (by omega)]
  refine Nat.le_trans (show 4607182418800017408 ≤ near 1 0 by decide) (near_mono (m1 := 1) (p1 := 0) (K := 0) (by omega) (by omega) ?_)
  simp
  omega

theorem div_near {a b : Nat} (ha : a < 9218868437227405312) (hb : b < 9218868437227405312) (h0 : 0 < b) : D.div a b = some (near (2 * (mg a * 2 ^ (54 + (mg b).log2 - (mg a).log2) / mg b) + (mg a * 2 ^ (54 + (mg b).log2 - (mg a).log2) % mg b != 0).toNat) (-1074 + (sh a : Int) - (-1074 + (sh b : Int)) - ((54 + (mg b).log2 - (mg a).log2 : Nat) : Int) - 1)) := by
  unfold Format.div
  rw [read_eq ha, read_eq hb]
  unfold Datum.quotient
  simp only [mg_pos h0, if_false, Nat.shiftLeft_eq]
  rfl
theorem div_ok {a b : Nat} (ha : a < 9218868437227405312) (hb : b < 9218868437227405312) (h0 : 0 < b) : D.div a b = some (fdiv a b) := by
  unfold fdiv
  rw [div_near ha hb h0]
  rfl
theorem fdiv_near {a b : Nat} (ha : a < 9218868437227405312) (hb : b < 9218868437227405312) (h0 : 0 < b) : fdiv a b = near (2 * (mg a * 2 ^ (54 + (mg b).log2 - (mg a).log2) / mg b) + (mg a * 2 ^ (54 + (mg b).log2 - (mg a).log2) % mg b != 0).toNat) (-1074 + (sh a : Int) - (-1074 + (sh b : Int)) - ((54 + (mg b).log2 - (mg a).log2 : Nat) : Int) - 1) := by
  unfold fdiv
  rw [div_near ha hb h0]
  rfl
theorem sticky {N n T : Nat} (h0 : 0 < n) (h : 2 * N ≤ n * T) : 2 * (N / n) + (N % n != 0).toNat ≤ T := by
  have e := Nat.div_add_mod N n
  by_cases hr : N % n = 0
  · rw [hr] at e ⊢
    have : n * (2 * (N / n)) ≤ n * T := by rw [Nat.mul_left_comm]; omega
    have := Nat.le_of_mul_le_mul_left this h0
    simpa using this
  · have : n * (2 * (N / n)) < n * T := by rw [Nat.mul_left_comm]; omega
    have := Nat.lt_of_mul_lt_mul_left this
    have hb : (N % n != 0).toNat ≤ 1 := by cases (N % n != 0) <;> simp
    omega
/-- A QUOTIENT IS NO MORE THAN WHAT THE EXACT ONE IS NO MORE THAN -/
theorem fdiv_le {a b c : Nat} (ha : a < 9218868437227405312) (hb : b < 9218868437227405312) (hc : c < 9218868437227405312) (h0 : 0 < b) (u : Nat) (hu : u = 1074) (h : V a * 2 ^ u ≤ V b * V c) : fdiv a b ≤ c := by
  by_cases ha0 : a = 0
  · subst ha0
    rw [fdiv_near ha hb h0]
    have : mg 0 = 0 := by decide
    rw [this]
    simp only [Nat.zero_mul, Nat.zero_div, Nat.zero_mod, Nat.mul_zero, bne_self_eq_false, Bool.toNat_false, Nat.add_zero, near_zero]
    exact Nat.zero_le _
  have hna := mg_pos (a := a) (by omega)
  have hnb := mg_pos h0
  have hc0 : 0 < c := by
    rcases Nat.eq_zero_or_pos c with h1 | h1
    · exfalso
      rw [h1, V_zero, Nat.mul_zero] at h
      have := Nat.mul_pos (V_pos (a := a) (by omega)) (pow_pos u)
      omega
    · exact h1
  have hnc := mg_pos hc0
  have h1 : mg a * 2 ^ (sh a + u) ≤ (mg b * mg c) * 2 ^ (sh b + sh c) := by
    unfold V at h
    have e : mg b * mg c * 2 ^ (sh b + sh c) = mg b * 2 ^ sh b * (mg c * 2 ^ sh c) := by
      rw [Nat.pow_add, Nat.mul_assoc, Nat.mul_assoc, Nat.mul_left_comm (mg c)]
    rw [e, Nat.pow_add, ← Nat.mul_assoc]
    exact h
  have hl : (mg a).log2 + (sh a + u) ≤ (mg b).log2 + (mg c).log2 + 1 + (sh b + sh c) := by
    have ht := top_le hna (Nat.mul_ne_zero hnb hnc) h1
    have : (mg b * mg c).log2 < (mg b).log2 + 1 + ((mg c).log2 + 1) := by
      refine (Nat.log2_lt (Nat.mul_ne_zero hnb hnc)).2 ?_
      rw [Nat.pow_add]
      exact Nat.mul_lt_mul_of_lt_of_le (log_lt _) (Nat.le_of_lt (log_lt _)) (pow_pos _)
    omega
  have la := mg_log (a := a)
  have lc := mg_log (a := c)
  rw [fdiv_near ha hb h0]
  obtain ⟨more, hmore⟩ : ∃ k, 54 + (mg b).log2 - (mg a).log2 = k := ⟨_, rfl⟩
  rw [hmore]
  have hp : -1074 + (sh a : Int) - (-1074 + (sh b : Int)) - (more : Int) - 1 ≤ -1074 + (sh c : Int) := by omega
  have := near_mono (m1 := 2 * (mg a * 2 ^ more / mg b) + (mg a * 2 ^ more % mg b != 0).toNat) (m2 := mg c) (p1 := -1074 + (sh a : Int) - (-1074 + (sh b : Int)) - (more : Int) - 1) (p2 := -1074 + (sh c : Int)) (Int.le_refl _) hp (by
    rw [Int.sub_self, Int.toNat_zero, Nat.pow_zero, Nat.mul_one]
    refine sticky (by omega) ?_
    have := shift_le (c := more + 1) (d := (-1074 + (sh c : Int) - (-1074 + (sh a : Int) - (-1074 + (sh b : Int)) - (more : Int) - 1)).toNat) h1 (by omega)
    have e2 : 2 * (mg a * 2 ^ more) = mg a * 2 ^ (more + 1) := by rw [Nat.pow_succ, Nat.mul_comm (2 ^ more) 2, Nat.mul_left_comm]
    rw [e2, ← Nat.mul_assoc]
    exact this)
  rwa [near_read hc] at this
theorem V_one (u : Nat) (hu : u = 1074) : V 4607182418800017408 = 2 ^ u := by
  have h1 : mg 4607182418800017408 = 2 ^ 52 := by decide
  have h2 : sh 4607182418800017408 = 1022 := by decide
  unfold V
  rw [h1, ← Nat.pow_add, show 52 + sh 4607182418800017408 = u by omega]
theorem fdiv_self_le {a b : Nat} (ha : a < 9218868437227405312) (hb : b < 9218868437227405312) (h1 : 4607182418800017408 ≤ b) : fdiv a b ≤ a := by
  obtain ⟨u, hu⟩ : ∃ u : Nat, u = 1074 := ⟨_, rfl⟩
  refine fdiv_le ha hb ha (by omega) u hu ?_
  have := V_le hb h1
  rw [V_one u hu] at this
  rw [Nat.mul_comm]
  exact Nat.mul_le_mul_right _ this

/-- the lesser of a word and 1e300 -/
def cap (a : Nat) : Nat := if a ≤ 9094988921128908188 then a else 9094988921128908188
theorem order_cap {a : Nat} (h : a ≤ 9218868437227405312) : D.order a 9094988921128908188 = some (compare a 9094988921128908188) := by
  rcases Nat.lt_or_ge a 9218868437227405312 with hl | hg
  · exact order_eq hl (by decide)
  · obtain rfl : a = 9218868437227405312 := by omega
    decide
theorem cap_le (a : Nat) : cap a ≤ 9094988921128908188 := by unfold cap; split <;> omega

/-- three quarters of a row's kind: *9 then /10 -/
def tenths (a : Nat) : Nat := fdiv (fmul a 4621256167635550208) 4621819117588971520
theorem mul9_fin {a : Nat} (h : a ≤ 9094988921128908188) : fmul a 4621256167635550208 < 9218868437227405312 :=
  Nat.lt_of_le_of_lt (fmul_mono (a' := 9094988921128908188) (by decide) (by decide) h) (by decide +kernel)
theorem tenths_le {a : Nat} (h : a ≤ 9094988921128908188) : tenths a ≤ 9094988921128908188 := by
  obtain ⟨u, hu⟩ : ∃ u : Nat, u = 1074 := ⟨_, rfl⟩
  refine fdiv_le (mul9_fin h) (by decide) (by decide) (by decide) u hu ?_
  have h1 := V_le (b := fmul 9094988921128908188 4621256167635550208) (by decide +kernel) (fmul_mono (a' := 9094988921128908188) (b := 4621256167635550208) (by decide) (by decide) h)
  refine Nat.le_trans (Nat.mul_le_mul_right _ h1) ?_
  have e1 : mg (fmul 9094988921128908188 4621256167635550208) = 7565482232153168 := by decide +kernel
  have e2 : sh (fmul 9094988921128908188 4621256167635550208) = 2021 := by decide +kernel
  have e3 : mg 4621819117588971520 = 5629499534213120 := by decide
  have e4 : sh 4621819117588971520 = 1025 := by decide
  have e5 : mg 9094988921128908188 = 6724873095247260 := by decide
  have e6 : sh 9094988921128908188 = 2018 := by decide
  have := shift_le (m1 := 7565482232153168) (m2 := 5629499534213120 * 6724873095247260) (a := 52) (b := 0) (c := sh (fmul 9094988921128908188 4621256167635550208) + u) (d := sh 4621819117588971520 + sh 9094988921128908188) (by decide +kernel) (by omega)
  unfold V
  rw [e1, e3, e5]
  rw [Nat.pow_add, ← Nat.mul_assoc, Nat.pow_add, Nat.mul_assoc 5629499534213120, Nat.mul_left_comm 6724873095247260, ← Nat.mul_assoc 5629499534213120] at this
  exact this
theorem half_le {a : Nat} (h : a ≤ 9094988921128908188) : fdiv a 4611686018427387904 ≤ a := fdiv_self_le (by omega) (by decide) (by decide)

/-- sums -/
theorem add_near {a b : Nat} (ha : a < 9218868437227405312) (hb : b < 9218868437227405312) : ∃ k, k ≤ sh a ∧ k ≤ sh b ∧ D.add a b = some (near (mg a * 2 ^ (sh a - k) + mg b * 2 ^ (sh b - k)) (-1074 + (k : Int))) := by
  obtain ⟨k, hk⟩ : ∃ k, k = min (sh a) (sh b) := ⟨_, rfl⟩
  refine ⟨k, by omega, by omega, ?_⟩
  unfold Format.add
  rw [read_eq ha, read_eq hb]
  unfold Datum.sum signed
  simp only [Bool.false_eq_true, if_false, Nat.shiftLeft_eq, Bool.and_self]
  have e0 : min (-1074 + (sh a : Int)) (-1074 + (sh b : Int)) = -1074 + (k : Int) := by omega
  have e1 : (-1074 + (sh a : Int) - (-1074 + (k : Int))).toNat = sh a - k := by omega
  have e2 : (-1074 + (sh b : Int) - (-1074 + (k : Int))).toNat = sh b - k := by omega
  rw [e0, e1, e2]
  generalize mg a * 2 ^ (sh a - k) = x
  generalize mg b * 2 ^ (sh b - k) = y
  have e3 : ((x : Int) + (y : Int)).natAbs = x + y := by omega
  have e4 : (if (x : Int) + (y : Int) = 0 then false else decide ((x : Int) + (y : Int) < 0)) = false := by
    split
    · rfl
    · exact decide_eq_false (by omega)
  rw [e3, e4]
  rfl
theorem add_ok {a b : Nat} (ha : a ≤ 9218868437227405312) (hb : b ≤ 9218868437227405312) : D.add a b = some (fadd a b) ∧ fadd a b ≤ 9218868437227405312 := by
  unfold fadd
  rcases Nat.lt_or_ge a 9218868437227405312 with h1 | h1
  · rcases Nat.lt_or_ge b 9218868437227405312 with h2 | h2
    · obtain ⟨k, _, _, h⟩ := add_near h1 h2
      rw [h]
      exact ⟨rfl, near_inf _ _⟩
    · obtain rfl : b = 9218868437227405312 := by omega
      have : D.add a 9218868437227405312 = some 9218868437227405312 := by
        unfold Format.add
        rw [read_eq h1, read_inf]
        rfl
      rw [this]
      exact ⟨rfl, Nat.le_refl _⟩
  · obtain rfl : a = 9218868437227405312 := by omega
    have : D.add 9218868437227405312 b = some 9218868437227405312 := by
      unfold Format.add
      rw [read_inf]
      rcases Nat.lt_or_ge b 9218868437227405312 with h2 | h2
      · rw [read_eq h2]; rfl
      · obtain rfl : b = 9218868437227405312 := by omega
        rfl
    rw [this]
    exact ⟨rfl, Nat.le_refl _⟩
theorem le_fadd {a b : Nat} (ha : a < 9218868437227405312) (hb : b < 9218868437227405312) : a ≤ fadd a b ∧ b ≤ fadd a b := by
  obtain ⟨k, k1, k2, h⟩ := add_near ha hb
  unfold fadd
  rw [h]
  refine ⟨?_, ?_⟩
  · refine Nat.le_trans (Nat.le_of_eq (near_read ha).symm) (near_mono (K := -1074 + (k : Int)) (by omega) (by omega) ?_)
    rw [show (-1074 + (sh a : Int) - (-1074 + (k : Int))).toNat = sh a - k by omega, Int.sub_self, Int.toNat_zero, Nat.pow_zero, Nat.mul_one]
    omega
  · refine Nat.le_trans (Nat.le_of_eq (near_read hb).symm) (near_mono (K := -1074 + (k : Int)) (by omega) (by omega) ?_)
    rw [show (-1074 + (sh b : Int) - (-1074 + (k : Int))).toNat = sh b - k by omega, Int.sub_self, Int.toNat_zero, Nat.pow_zero, Nat.mul_one]
    omega
end Go.Flt

/- Layer 16 (plan): the rows behind a step. -/
namespace Go.Proofs
open Go.RowKit Go.Ink Go.Flt
set_option linter.unusedVariables false
set_option linter.unusedSimpArgs false
attribute [local go_sem] Oper.semAt_some

theorem div_one {a : Nat} (ha : a < 9218868437227405312) : fdiv a 4607182418800017408 = a := by
  refine Nat.le_antisymm (fdiv_self_le ha (by decide) (by decide)) ?_
  by_cases h0 : a = 0
  · omega
  rw [fdiv_near ha (by decide) (by decide)]
  have e1 : mg 4607182418800017408 = 2 ^ 52 := by decide
  have e2 : sh 4607182418800017408 = 1022 := by decide
  have e3 : (2 ^ 52 : Nat).log2 = 52 := by decide
  have la := mg_log (a := a)
  rw [e1, e2, e3]
  have hN : mg a * 2 ^ (54 + 52 - (mg a).log2) = mg a * 2 ^ (54 - (mg a).log2) * 2 ^ 52 := by
    rw [Nat.mul_assoc, ← Nat.pow_add, show 54 + 52 - (mg a).log2 = 54 - (mg a).log2 + 52 by omega]
  rw [hN, Nat.mul_div_cancel _ (pow_pos 52), Nat.mul_mod_left]
  have := near_mono (m1 := mg a) (m2 := 2 * (mg a * 2 ^ (54 - (mg a).log2)) + ((0 : Nat) != 0).toNat) (p1 := -1074 + (sh a : Int)) (p2 := -1074 + (sh a : Int) - (-1074 + ((1022 : Nat) : Int)) - ((54 + 52 - (mg a).log2 : Nat) : Int) - 1) (K := -1074 + (sh a : Int) - (-1074 + ((1022 : Nat) : Int)) - ((54 + 52 - (mg a).log2 : Nat) : Int) - 1) (by omega) (Int.le_refl _) (by
    rw [Int.sub_self, Int.toNat_zero, Nat.pow_zero, Nat.mul_one]
    rw [show (-1074 + (sh a : Int) - (-1074 + (sh a : Int) - (-1074 + ((1022 : Nat) : Int)) - ((54 + 52 - (mg a).log2 : Nat) : Int) - 1)).toNat = 54 - (mg a).log2 + 1 by omega]
    rw [Nat.pow_succ, ← Nat.mul_assoc, Nat.mul_comm _ 2]
    exact Nat.le_add_right _ _)
  rwa [near_read ha] at this

def findS (sizes : List SizeD) (pred : ByteArray) : SizeD := (sizes.find? fun s => decide (s.pred = pred)).getD ⟨⟨#[]⟩, 0, []⟩
/-- rows, for a column that is known ahead -/
def thin (z : SizeD) (n : Nat) (c : Int) : Nat := if c < z.dist.length ∧ 0 < z.dist.getD c.toNat 0 then fdiv n (ofInt (z.dist.getD c.toNat 0)) else n
def behindD (ahead : Nat) (L : LitD) (bound : List Int) (sizes : List SizeD) : Nat :=
  if L.kind = 2 then fdiv ahead 4611686018427387904 else if L.kind = 3 then tenths ahead
  else bound.foldl (thin (findS sizes L.atom.pred)) (cap (fmul ahead (ofInt (findS sizes L.atom.pred).rows)))
def fitS (z : SizeD) : Prop := 0 ≤ z.rows ∧ z.rows ≤ 2147483647 ∧ ∀ c, c ∈ z.dist → 0 ≤ c ∧ c ≤ 2147483647
theorem usable_fit {l : List SizeD} (h : usableB l = true) : ∀ z, z ∈ l → fitS z := by
  intro z hz
  unfold usableB at h
  rw [Bool.not_eq_true', List.any_eq_false] at h
  have := h z hz
  unfold unfitB at this
  rw [Bool.not_eq_true, Bool.or_eq_false_iff, List.any_eq_false] at this
  obtain ⟨h1, h2⟩ := this
  unfold outB at h1
  rw [Bool.or_eq_false_iff, decide_eq_false_iff_not, decide_eq_false_iff_not] at h1
  refine ⟨by omega, by omega, fun c hc => ?_⟩
  have := h2 c hc
  unfold outB at this
  rw [Bool.not_eq_true, Bool.or_eq_false_iff, decide_eq_false_iff_not, decide_eq_false_iff_not] at this
  omega
theorem find_fit {l : List SizeD} (h : usableB l = true) (pred : ByteArray) : fitS (findS l pred) := by
  unfold findS
  cases hf : l.find? fun s => decide (s.pred = pred) with
  | none => exact ⟨by decide, by decide, by simp⟩
  | some z => exact usable_fit h z (List.mem_of_find?_eq_some hf)
theorem thin_le {z : SizeD} (hz : fitS z) {n : Nat} (hn : n ≤ 9094988921128908188) (c : Int) : thin z n c ≤ 9094988921128908188 := by
  unfold thin
  split
  · rename_i h
    obtain ⟨h1, h2⟩ := h
    have hm : z.dist.getD c.toNat 0 ∈ z.dist := by
      by_cases hl : c.toNat < z.dist.length
      · rw [List.getD_eq_getElem?_getD, List.getElem?_eq_getElem hl]; exact List.getElem_mem hl
      · rw [List.getD_eq_getElem?_getD, List.getElem?_eq_none (by omega)] at h2; simp at h2
    have h3 := hz.2.2 _ hm
    exact Nat.le_trans (fdiv_self_le (by omega) (ofInt_fin (by omega) (by omega)) (ofInt_one (by omega))) hn
  · exact hn
theorem thins_le {z : SizeD} (hz : fitS z) (l : List Int) {n : Nat} (hn : n ≤ 9094988921128908188) : l.foldl (thin z) n ≤ 9094988921128908188 := by
  induction l generalizing n with
  | nil => exact hn
  | cons c r ih => exact ih (thin_le hz hn c)
theorem behind_le {a : Nat} (ha : a ≤ 9094988921128908188) (L : LitD) (b : List Int) {l : List SizeD} (hl : usableB l = true) : behindD a L b l ≤ 9094988921128908188 := by
  unfold behindD
  split
  · exact Nat.le_trans (half_le ha) ha
  · split
    · exact tenths_le ha
    · exact thins_le (find_fit hl _) _ (cap_le _)
theorem thins_snoc (z : SizeD) (n : Nat) (l : List Int) {k : Nat} {c : Int} (h : l[k]? = some c) : (l.take (k + 1)).foldl (thin z) n = thin z ((l.take k).foldl (thin z) n) c := by
  rw [List.take_add_one, h, List.foldl_append]
  rfl

theorem run_min_cap (ts : Array TypeId) (t : TypeId) {x : Nat} (hx : x ≤ 9218868437227405312) (w : World) : (Builtin.min_ ts t #[.float .f64 x, .float .f64 9094988921128908188]).run Try.prog w = .ok (.float .f64 (cap x)) w := by
  have ho : FloatKind.f64.format.order x 9094988921128908188 = some (compare x 9094988921128908188) := order_cap hx
  have e : compare x 9094988921128908188 = if x < 9094988921128908188 then .lt else if x = 9094988921128908188 then .eq else .gt := rfl
  simp only [Builtin.min_, Builtin.min2, List.foldlM_cons, List.foldlM_nil, ho, e]
  unfold cap
  rcases Nat.lt_trichotomy x 9094988921128908188 with h | h | h
  · rw [if_pos h, if_pos (show x ≤ 9094988921128908188 by omega)]; simp [Sem.run_bind, Sem.run_pure, Result.andThen]
  · rw [if_neg (show ¬ x < 9094988921128908188 by omega), if_pos h, if_pos (show x ≤ 9094988921128908188 by omega)]; subst h; simp [Sem.run_bind, Sem.run_pure, Result.andThen]
  · rw [if_neg (show ¬ x < 9094988921128908188 by omega), if_neg (show ¬ x = 9094988921128908188 by omega), if_neg (show ¬ x ≤ 9094988921128908188 by omega)]; simp [Sem.run_bind, Sem.run_pure, Result.andThen]
theorem run_conv (n : Int) (w : World) : (convert 3 49 (.int .i64 n)).run Try.prog w = .ok (.float .f64 (ofInt n)) w := run_convert_int_float (P := Try.prog) w 3 49 .i64 .f64 n (by kernel_rfl) (by kernel_rfl)
theorem run_fmul {a b : Nat} (ha : a < 9218868437227405312) (hb : b < 9218868437227405312) (w : World) : (binOp .mul 49 (.float .f64 a) (.float .f64 b)).run Try.prog w = .ok (.float .f64 (fmul a b)) w := run_float_arith w .mul _ .f64 a b _ (mul_ok ha hb)
theorem run_fdiv {a b : Nat} (ha : a < 9218868437227405312) (hb : b < 9218868437227405312) (h0 : 0 < b) (w : World) : (binOp .quo 49 (.float .f64 a) (.float .f64 b)).run Try.prog w = .ok (.float .f64 (fdiv a b)) w := run_float_arith w .quo _ .f64 a b _ (div_ok ha hb h0)

set_option maxRecDepth 100000 in
theorem behind2_any (b a : Nat) (ha : a ≤ 9094988921128908188) (w : World) (h : w.cell? ⟨b, 0, none⟩ = some (.float .f64 a)) : Calls Try.prog 72 #[.pointer (some ⟨b, 0, none⟩)] w fun e w' => e = .returned (.float .f64 (fdiv a 4611686018427387904)) ∧ w' = w := by
  have hd := fun w => run_fdiv (a := a) (b := 4611686018427387904) (by omega) (by decide) (by decide) w
  have hb := World.block_lt_of_cell? w _ h
  clear ha
  go_enter Try.func72, Try.ntmps72
  go_wp2_with fail
  go_ret
  exact ⟨rfl, rfl⟩
set_option maxRecDepth 100000 in
theorem behind3_any (b a : Nat) (ha : a ≤ 9094988921128908188) (w : World) (h : w.cell? ⟨b, 0, none⟩ = some (.float .f64 a)) : Calls Try.prog 73 #[.pointer (some ⟨b, 0, none⟩)] w fun e w' => e = .returned (.float .f64 (tenths a)) ∧ w' = w := by
  have hm := fun w => run_fmul (a := a) (b := 4621256167635550208) (by omega) (by decide) w
  have hd := fun w => run_fdiv (a := fmul a 4621256167635550208) (b := 4621819117588971520) (mul9_fin ha) (by decide) (by decide) w
  have hb := World.block_lt_of_cell? w _ h
  clear ha
  go_enter Try.func73, Try.ntmps73
  go_wp2_with fail
  go_ret
  exact ⟨rfl, rfl⟩
set_option maxRecDepth 100000 in
theorem samePred_any (b : Nat) (s : SizeD) (sv : Value) (pred : ByteArray) (n : Nat) (w : World) (hs : IntsIn n w sv s.dist) (h : w.cell? ⟨b, 1, none⟩ = some (.string pred)) : Calls Try.prog 71 #[sizeV s sv, .pointer (some ⟨b, 0, none⟩)] w fun e w' => e = .returned (.bool (decide (s.pred = pred))) ∧ Keep (fun b => b < w.heap.size) w w' := by
  obtain ⟨p, rows, dist⟩ := s
  obtain ⟨a, c, rfl, -, -, -⟩ := hs
  unfold sizeV
  simp only
  have hb := World.block_lt_of_cell? w _ h
  by_cases he : p = pred
  · have hE : decide (p = pred) = true := decide_eq_true he
    have hbb := bytes_same he
    clear he
    have XhE := Lib.hid hE
    clear hE
    go_enter Try.func71, Try.ntmps71
    go_wp2_with fail
    go_ret
    exact ⟨by rw [XhE.out]; first | rfl | simp [hbb], Keep.alloc _ _ _⟩
  · have hE : decide (p = pred) = false := decide_eq_false he
    have hbb := bytes_other he
    clear he
    have XhE := Lib.hid hE
    clear hE
    go_enter Try.func71, Try.ntmps71
    go_wp2_with fail
    go_ret
    exact ⟨by rw [XhE.out]; first | rfl | simp [hbb], Keep.alloc _ _ _⟩
end Go.Proofs
