/- Doubles that are not negative: rounding keeps the order; what the words are. No program is named here. -/
import Derived.Laws.FloatArith
namespace Go.Flt
open Ieee
set_option linter.unusedVariables false
set_option linter.unusedSimpArgs false

abbrev D := Ieee.double
theorem binade_eq : D.binade = 4503599627370496 := by decide
theorem inf_eq : D.infRung = 9218868437227405312 := by decide
theorem sign_eq : D.signWeight = 9223372036854775808 := by decide
theorem least_eq : D.leastPlace = -1074 := by decide
theorem frac_eq : (D.fractionBits : Int) = 52 := by decide

/-- to the nearest whole number, between two to the even one -/
def rne (n g : Nat) : Nat := n / g + (decide (g < 2 * (n % g)) || (g == 2 * (n % g) && n / g % 2 == 1)).toNat

theorem cut_eq (s : Bool) (n d : Nat) : Toward.even.cut s n d = rne n (2 ^ d) := by
  unfold Toward.cut rne
  simp only [Nat.one_shiftLeft]
  by_cases h : d ≤ n.log2 + 2
  · rw [Nat.min_eq_left h]
  · rw [Nat.min_eq_right (by omega)]
    have h1 : n < 2 ^ (n.log2 + 1) := Nat.lt_log2_self
    have h2 : 2 * 2 ^ (n.log2 + 1) = 2 ^ (n.log2 + 2) := by rw [Nat.pow_succ 2 (n.log2 + 1)]; omega
    have h3 : 2 ^ (n.log2 + 2) ≤ 2 ^ d := Nat.pow_le_pow_right (by omega) (by omega)
    rw [Nat.div_eq_of_lt (show n < 2 ^ (n.log2 + 2) by omega), Nat.div_eq_of_lt (show n < 2 ^ d by omega), Nat.mod_eq_of_lt (show n < 2 ^ (n.log2 + 2) by omega), Nat.mod_eq_of_lt (show n < 2 ^ d by omega)]
    rw [decide_eq_false (by omega), decide_eq_false (by omega), beq_eq_false_iff_ne.2 (show (2 ^ (n.log2 + 2)) ≠ 2 * n by omega), beq_eq_false_iff_ne.2 (show (2 ^ d) ≠ 2 * n by omega)]

theorem rne_mono {n1 g1 n2 g2 : Nat} (h1 : 0 < g1) (h2 : 0 < g2) (h : n1 * g2 ≤ n2 * g1) : rne n1 g1 ≤ rne n2 g2 := by
  have e1 := Nat.div_add_mod n1 g1
  have e2 := Nat.div_add_mod n2 g2
  have r1 := Nat.mod_lt n1 h1
  have r2 := Nat.mod_lt n2 h2
  unfold rne
  generalize hq1 : n1 / g1 = q1 at *
  generalize hq2 : n2 / g2 = q2 at *
  generalize hm1 : n1 % g1 = m1 at *
  generalize hm2 : n2 % g2 = m2 at *
  have hb : ∀ b : Bool, b.toNat ≤ 1 := fun b => by cases b <;> simp
  have hle : q1 ≤ q2 := by
    rcases Nat.lt_or_ge q2 q1 with hlt | hge
    · exfalso
      have a1 : (q2 + 1) * g1 * g2 ≤ n1 * g2 := Nat.mul_le_mul_right _ (by
        rw [← e1]
        have := Nat.mul_le_mul_left g1 (show q2 + 1 ≤ q1 from hlt)
        rw [Nat.mul_comm (q2 + 1) g1]; omega)
      have a2 : n2 * g1 < (q2 + 1) * g1 * g2 := by
        have : n2 < (q2 + 1) * g2 := by rw [← e2, Nat.add_mul, Nat.mul_comm q2 g2]; omega
        have := Nat.mul_lt_mul_of_pos_right this h1
        rw [Nat.mul_right_comm] at this
        exact this
      omega
    · exact hge
  rcases Nat.lt_or_ge q1 q2 with hlt | hge
  · have := hb (decide (g1 < 2 * m1) || (g1 == 2 * m1 && q1 % 2 == 1))
    omega
  · obtain rfl : q1 = q2 := by omega
    have hm : m1 * g2 ≤ m2 * g1 := by
      rw [← e1, ← e2, Nat.add_mul, Nat.add_mul] at h
      have : g1 * q1 * g2 = g2 * q1 * g1 := by rw [Nat.mul_right_comm, Nat.mul_comm g1 g2, Nat.mul_right_comm]
      omega
    refine Nat.add_le_add_left ?_ _
    cases hx : (decide (g1 < 2 * m1) || (g1 == 2 * m1 && q1 % 2 == 1)) with
    | false => simp
    | true =>
      have key : (decide (g2 < 2 * m2) || (g2 == 2 * m2 && q1 % 2 == 1)) = true := by
        simp only [Bool.or_eq_true, Bool.and_eq_true, decide_eq_true_eq, beq_iff_eq] at hx ⊢
        rcases hx with hx | ⟨hx, ho⟩
        · left
          have a1 : g1 * g2 < 2 * m1 * g2 := Nat.mul_lt_mul_of_pos_right hx h2
          have a2 : g2 * g1 < 2 * m2 * g1 := by
            rw [Nat.mul_comm g2 g1, Nat.mul_assoc 2 m2 g1]
            rw [Nat.mul_assoc] at a1
            omega
          exact Nat.lt_of_mul_lt_mul_right a2
        · have a1 : g1 * g2 = 2 * m1 * g2 := by rw [← hx]
          have a2 : g2 * g1 ≤ 2 * m2 * g1 := by
            rw [Nat.mul_comm g2 g1, Nat.mul_assoc 2 m2 g1]
            rw [Nat.mul_assoc] at a1
            omega
          have a3 := Nat.le_of_mul_le_mul_right a2 h1
          rcases Nat.lt_or_ge g2 (2 * m2) with hl | hg
          · exact .inl hl
          · exact .inr ⟨by omega, ho⟩
      rw [key]
      exact Nat.le_refl _
theorem rne_exact (k : Nat) {g : Nat} (h : 0 < g) : rne (k * g) g = k := by
  unfold rne
  rw [Nat.mul_div_cancel _ h, Nat.mul_mod_left]
  rw [decide_eq_false (by omega), beq_eq_false_iff_ne.2 (by omega)]
  rfl
theorem rne_le {n g k : Nat} (h : 0 < g) (hn : n ≤ k * g) : rne n g ≤ k := by
  have := rne_mono (n1 := n) (n2 := k * g) h h (Nat.mul_le_mul_right _ hn)
  rwa [rne_exact k h] at this
theorem le_rne {n g k : Nat} (h : 0 < g) (hn : k * g ≤ n) : k ≤ rne n g := by
  have := rne_mono (n1 := k * g) (n2 := n) h h (Nat.mul_le_mul_right _ hn)
  rwa [rne_exact k h] at this

/-- the word nearest to m * 2 ^ p -/
def near (m : Nat) (p : Int) : Nat := D.nearest false m p
def lastOf (m : Nat) (p : Int) : Int := max (p + m.log2 - 52) (-1074)
theorem near_eq {m : Nat} (p : Int) (h : m ≠ 0) : near m p = min ((lastOf m p + 1074).toNat * 4503599627370496 + rne (m * 2 ^ (p - lastOf m p).toNat) (2 ^ (lastOf m p - p).toNat)) 9218868437227405312 := by
  unfold near Format.nearest
  rw [if_neg h]
  simp only [binade_eq, inf_eq, least_eq, frac_eq, cut_eq, Nat.shiftLeft_eq]
  unfold Format.word lastOf
  simp only [Bool.false_eq_true, if_false]
  rfl
theorem near_zero (p : Int) : near 0 p = 0 := rfl
theorem near_inf (m : Nat) (p : Int) : near m p ≤ 9218868437227405312 := by
  by_cases h : m = 0
  · subst h; rw [near_zero]; decide
  · rw [near_eq p h]; exact Nat.min_le_right _ _

theorem pow_pos (k : Nat) : 0 < 2 ^ k := Nat.two_pow_pos k
theorem log_le {m : Nat} (h : m ≠ 0) : 2 ^ m.log2 ≤ m := Nat.log2_self_le h
theorem log_lt (m : Nat) : m < 2 ^ (m.log2 + 1) := Nat.lt_log2_self

/-- the leading digits' places stand as the numbers do -/
theorem top_le {m1 m2 a b : Nat} (h1 : m1 ≠ 0) (h2 : m2 ≠ 0) (h : m1 * 2 ^ a ≤ m2 * 2 ^ b) : m1.log2 + a ≤ m2.log2 + b := by
  have x1 : 2 ^ (m1.log2 + a) ≤ m1 * 2 ^ a := by rw [Nat.pow_add]; exact Nat.mul_le_mul_right _ (log_le h1)
  have x2 : m2 * 2 ^ b < 2 ^ (m2.log2 + 1 + b) := by rw [Nat.pow_add]; exact Nat.mul_lt_mul_of_pos_right (log_lt m2) (pow_pos b)
  have := (Nat.pow_lt_pow_iff_right (show 1 < 2 by omega)).1 (show 2 ^ (m1.log2 + a) < 2 ^ (m2.log2 + 1 + b) by omega)
  omega

/-- a comparison of m1 * 2 ^ a and m2 * 2 ^ b, moved to other powers -/
theorem shift_le {m1 m2 a b c d : Nat} (h : m1 * 2 ^ a ≤ m2 * 2 ^ b) (e : a + d = b + c) : m1 * 2 ^ c ≤ m2 * 2 ^ d := by
  have h1 : m1 * 2 ^ c * 2 ^ b ≤ m2 * 2 ^ d * 2 ^ b := by
    rw [Nat.mul_assoc, ← Nat.pow_add, Nat.mul_assoc, ← Nat.pow_add, show c + b = a + d by omega, show d + b = b + d by omega, Nat.pow_add, Nat.pow_add, ← Nat.mul_assoc, ← Nat.mul_assoc]
    exact Nat.mul_le_mul_right _ h
  exact Nat.le_of_mul_le_mul_right h1 (pow_pos b)

theorem rung_mono (BB l1 l2 r1 r2 : Nat) (h : l1 ≤ l2) (h1 : l1 < l2 → r1 ≤ 2 * BB ∧ BB ≤ r2) (h2 : l1 = l2 → r1 ≤ r2) : l1 * BB + r1 ≤ l2 * BB + r2 := by
  rcases Nat.lt_or_ge l1 l2 with hl | hg
  · obtain ⟨a, b⟩ := h1 hl
    have := Nat.mul_le_mul_right BB (show l1 + 1 ≤ l2 from hl)
    rw [Nat.add_mul] at this
    omega
  · obtain rfl : l1 = l2 := by omega
    have := h2 rfl
    omega
theorem split_div (a BB : Nat) (hB : 0 < BB) (h : BB ≤ a) : (a / BB - 1) * BB + (BB + a % BB) = a := by
  have hd := Nat.div_add_mod a BB
  have hq : 1 ≤ a / BB := (Nat.le_div_iff_mul_le hB).2 (by omega)
  have := Nat.succ_mul (a / BB - 1) BB
  rw [show (a / BB - 1).succ = a / BB by omega, Nat.mul_comm] at this
  omega
theorem far_le {m1 : Nat} {p1 l1 l2 : Int} (hl1 : l1 = lastOf m1 p1) (hlt : l1 < l2) (ht : m1 ≠ 0) : rne (m1 * 2 ^ (p1 - l1).toNat) (2 ^ (l1 - p1).toNat) ≤ 2 * 2 ^ 52 := by
  refine rne_le (pow_pos _) ?_
  have : m1 * 2 ^ (p1 - l1).toNat ≤ 2 ^ (m1.log2 + 1 + (p1 - l1).toNat) := by rw [Nat.pow_add]; exact Nat.mul_le_mul_right _ (Nat.le_of_lt (log_lt m1))
  refine Nat.le_trans this ?_
  rw [← Nat.pow_add_one', ← Nat.pow_add]
  refine Nat.pow_le_pow_right (by omega) ?_
  unfold lastOf at hl1
  omega
theorem le_far {m2 : Nat} {p2 l1 l2 : Int} (hl2 : l2 = lastOf m2 p2) (hl1 : -1074 ≤ l1) (hlt : l1 < l2) (h2 : m2 ≠ 0) : 2 ^ 52 ≤ rne (m2 * 2 ^ (p2 - l2).toNat) (2 ^ (l2 - p2).toNat) := by
  refine le_rne (pow_pos _) ?_
  have : 2 ^ (m2.log2 + (p2 - l2).toNat) ≤ m2 * 2 ^ (p2 - l2).toNat := by rw [Nat.pow_add]; exact Nat.mul_le_mul_right _ (log_le h2)
  refine Nat.le_trans ?_ this
  rw [← Nat.pow_add]
  refine Nat.pow_le_pow_right (by omega) ?_
  unfold lastOf at hl2
  omega
theorem b52 : 2 ^ 52 = 4503599627370496 := by decide
/-- ROUNDING KEEPS THE ORDER -/
theorem near_mono {m1 m2 : Nat} {p1 p2 K : Int} (k1 : K ≤ p1) (k2 : K ≤ p2) (h : m1 * 2 ^ (p1 - K).toNat ≤ m2 * 2 ^ (p2 - K).toNat) : near m1 p1 ≤ near m2 p2 := by
  by_cases h1 : m1 = 0
  · subst h1; rw [near_zero]; exact Nat.zero_le _
  by_cases h2 : m2 = 0
  · subst h2
    exfalso
    have : 0 < m1 * 2 ^ (p1 - K).toNat := Nat.mul_pos (by omega) (pow_pos _)
    omega
  have ht := top_le h1 h2 h
  rw [near_eq p1 h1, near_eq p2 h2, ← b52]
  have hl : lastOf m1 p1 ≤ lastOf m2 p2 := by unfold lastOf; omega
  have hb1 : -1074 ≤ lastOf m1 p1 := by unfold lastOf; omega
  obtain ⟨l1, hl1⟩ : ∃ l, l = lastOf m1 p1 := ⟨_, rfl⟩
  obtain ⟨l2, hl2⟩ : ∃ l, l = lastOf m2 p2 := ⟨_, rfl⟩
  rw [← hl1] at hl hb1
  rw [← hl2] at hl
  rw [← hl1, ← hl2]
  have hs := rung_mono (2 ^ 52) (l1 + 1074).toNat (l2 + 1074).toNat (rne (m1 * 2 ^ (p1 - l1).toNat) (2 ^ (l1 - p1).toNat)) (rne (m2 * 2 ^ (p2 - l2).toNat) (2 ^ (l2 - p2).toNat)) (by omega)
    (fun hlt => ⟨far_le hl1 (show l1 < l2 by omega) h1, le_far hl2 hb1 (by omega) h2⟩)
    (fun heq => by
      obtain rfl : l1 = l2 := by omega
      refine rne_mono (pow_pos _) (pow_pos _) ?_
      rw [Nat.mul_assoc, Nat.mul_assoc, ← Nat.pow_add, ← Nat.pow_add]
      exact shift_le h (by omega))
  exact (fun (a b c : Nat) (h : a ≤ b) => (by omega : min a c ≤ min b c)) _ _ _ hs

/-- the significand of a word, and its place above the least -/
def mg (a : Nat) : Nat := if a < 4503599627370496 then a else 4503599627370496 + a % 4503599627370496
def sh (a : Nat) : Nat := if a < 4503599627370496 then 0 else a / 4503599627370496 - 1
theorem read_eq {a : Nat} (h : a < 9218868437227405312) : D.read a = .number false (mg a) (-1074 + sh a) := by
  unfold Format.read
  simp only [binade_eq, inf_eq, sign_eq, least_eq]
  rw [Nat.mod_eq_of_lt (show a < 9223372036854775808 by omega), Nat.div_eq_of_lt (show a < 9223372036854775808 by omega)]
  unfold mg sh
  by_cases hb : a < 4503599627370496
  · simp only [hb, if_true]; rfl
  · simp only [hb, h, if_true, if_false]
    rfl
theorem read_inf : D.read 9218868437227405312 = .infinity false := by decide
theorem mg_pos {a : Nat} (h : 0 < a) : mg a ≠ 0 := by unfold mg; split <;> omega
theorem mg_log {a : Nat} : (mg a).log2 ≤ 52 := by
  have : mg a < 2 ^ 53 := by
    unfold mg
    have := Nat.mod_lt a (show 0 < 4503599627370496 by decide)
    split <;> omega
  by_cases h0 : mg a = 0
  · rw [h0]; decide
  · have := (Nat.log2_lt h0).2 this
    omega
/-- A WORD's NUMBER IS ROUNDED TO ITSELF -/
theorem near_read {a : Nat} (h : a < 9218868437227405312) : near (mg a) (-1074 + sh a) = a := by
  by_cases h0 : a = 0
  · subst h0; decide
  rw [near_eq _ (mg_pos (by omega))]
  have hlog := mg_log (a := a)
  by_cases hb : a < 4503599627370496
  · have e1 : mg a = a := by unfold mg; rw [if_pos hb]
    have e2 : sh a = 0 := by unfold sh; rw [if_pos hb]
    rw [e1] at hlog ⊢
    rw [e2]
    have e3 : lastOf a (-1074 + (0 : Nat)) = -1074 := by unfold lastOf; omega
    rw [e3]
    have := rne_exact a (g := 1) (by omega)
    simp only [Nat.mul_one] at this
    simp [this]
    omega
  · have e1 : mg a = 4503599627370496 + a % 4503599627370496 := by unfold mg; rw [if_neg hb]
    have e2 : sh a = a / 4503599627370496 - 1 := by unfold sh; rw [if_neg hb]
    have hlog2 : (mg a).log2 = 52 := by
      have : 52 ≤ (mg a).log2 := (Nat.le_log2 (by omega)).2 (by rw [e1]; omega)
      omega
    have e3 : lastOf (mg a) (-1074 + (sh a : Nat)) = -1074 + (sh a : Nat) := by unfold lastOf; omega
    rw [e3]
    have h1 := rne_exact (mg a) (g := 1) (by omega)
    simp only [Int.sub_self, Int.toNat_zero, Nat.pow_zero, Nat.mul_one] at h1 ⊢
    have e5 : ((-1074 + (sh a : Int)) + 1074).toNat = sh a := by omega
    rw [h1, e5, e1, e2, split_div a 4503599627370496 (by decide) (by omega)]
    exact Nat.min_eq_left (Nat.le_of_lt h)
end Go.Flt
