/- Layer 16 (plan): the rows behind a step. -/
import Derived.Test.YtichfebfcapnhaaProg
import Derived.Test.YtichfebfcapnhaaPnK
import Derived.Test.YtichfebfcapnhaaPnH
import Derived.Test.YtichfebfcapnhaaFltB
namespace Go.Proofs
open Go.RowKit Go.Ink Go.Flt
set_option linter.unusedVariables false
set_option linter.unusedSimpArgs false
attribute [local go_sem] Oper.semAt_some

theorem div_one {a : Nat} (ha : a < 9218868437227405312) : fdiv a 4607182418800017408 = a := by
  refine Nat.le_antisymm (fdiv_self_le ha (by decide) (by decide)) ?_
  by_cases h0 : a = 0
  · omega
  rw [fdiv_near ha (by decide) (by decide)]
  have e1 : mg 4607182418800017408 = 2 ^ 52 := by decide
  have e2 : sh 4607182418800017408 = 1022 := by decide
  have e3 : (2 ^ 52 : Nat).log2 = 52 := by decide
  have la := mg_log (a := a)
  rw [e1, e2, e3]
  have hN : mg a * 2 ^ (54 + 52 - (mg a).log2) = mg a * 2 ^ (54 - (mg a).log2) * 2 ^ 52 := by
    rw [Nat.mul_assoc, ← Nat.pow_add, show 54 + 52 - (mg a).log2 = 54 - (mg a).log2 + 52 by omega]
  rw [hN, Nat.mul_div_cancel _ (pow_pos 52), Nat.mul_mod_left]
  have := near_mono (m1 := mg a) (m2 := 2 * (mg a * 2 ^ (54 - (mg a).log2)) + ((0 : Nat) != 0).toNat) (p1 := -1074 + (sh a : Int)) (p2 := -1074 + (sh a : Int) - (-1074 + ((1022 : Nat) : Int)) - ((54 + 52 - (mg a).log2 : Nat) : Int) - 1) (K := -1074 + (sh a : Int) - (-1074 + ((1022 : Nat) : Int)) - ((54 + 52 - (mg a).log2 : Nat) : Int) - 1) (by omega) (Int.le_refl _) (by
    rw [Int.sub_self, Int.toNat_zero, Nat.pow_zero, Nat.mul_one]
    rw [show (-1074 + (sh a : Int) - (-1074 + (sh a : Int) - (-1074 + ((1022 : Nat) : Int)) - ((54 + 52 - (mg a).log2 : Nat) : Int) - 1)).toNat = 54 - (mg a).log2 + 1 by omega]
    rw [Nat.pow_succ, ← Nat.mul_assoc, Nat.mul_comm _ 2]
    exact Nat.le_add_right _ _)
  rwa [near_read ha] at this

def findS (sizes : List SizeD) (pred : ByteArray) : SizeD := (sizes.find? fun s => decide (s.pred = pred)).getD ⟨⟨#[]⟩, 0, []⟩
/-- rows, for a column that is known ahead -/
def thin (z : SizeD) (n : Nat) (c : Int) : Nat := if c < z.dist.length ∧ 0 < z.dist.getD c.toNat 0 then fdiv n (ofInt (z.dist.getD c.toNat 0)) else n
def behindD (ahead : Nat) (L : LitD) (bound : List Int) (sizes : List SizeD) : Nat :=
  if L.kind = 2 then fdiv ahead 4611686018427387904 else if L.kind = 3 then tenths ahead
  else bound.foldl (thin (findS sizes L.atom.pred)) (cap (fmul ahead (ofInt (findS sizes L.atom.pred).rows)))
def fitS (z : SizeD) : Prop := 0 ≤ z.rows ∧ z.rows ≤ 2147483647 ∧ ∀ c, c ∈ z.dist → 0 ≤ c ∧ c ≤ 2147483647
theorem usable_fit {l : List SizeD} (h : usableB l = true) : ∀ z, z ∈ l → fitS z := by
  intro z hz
  unfold usableB at h
  rw [Bool.not_eq_true', List.any_eq_false] at h
  have := h z hz
  unfold unfitB at this
  rw [Bool.not_eq_true, Bool.or_eq_false_iff, List.any_eq_false] at this
  obtain ⟨h1, h2⟩ := this
  unfold outB at h1
  rw [Bool.or_eq_false_iff, decide_eq_false_iff_not, decide_eq_false_iff_not] at h1
  refine ⟨by omega, by omega, fun c hc => ?_⟩
  have := h2 c hc
  unfold outB at this
  rw [Bool.not_eq_true, Bool.or_eq_false_iff, decide_eq_false_iff_not, decide_eq_false_iff_not] at this
  omega
theorem find_fit {l : List SizeD} (h : usableB l = true) (pred : ByteArray) : fitS (findS l pred) := by
  unfold findS
  cases hf : l.find? fun s => decide (s.pred = pred) with
  | none => exact ⟨by decide, by decide, by simp⟩
  | some z => exact usable_fit h z (List.mem_of_find?_eq_some hf)
theorem thin_le {z : SizeD} (hz : fitS z) {n : Nat} (hn : n ≤ 9094988921128908188) (c : Int) : thin z n c ≤ 9094988921128908188 := by
  unfold thin
  split
  · rename_i h
    obtain ⟨h1, h2⟩ := h
    have hm : z.dist.getD c.toNat 0 ∈ z.dist := by
      by_cases hl : c.toNat < z.dist.length
      · rw [List.getD_eq_getElem?_getD, List.getElem?_eq_getElem hl]; exact List.getElem_mem hl
      · rw [List.getD_eq_getElem?_getD, List.getElem?_eq_none (by omega)] at h2; simp at h2
    have h3 := hz.2.2 _ hm
    exact Nat.le_trans (fdiv_self_le (by omega) (ofInt_fin (by omega) (by omega)) (ofInt_one (by omega))) hn
  · exact hn
theorem thins_le {z : SizeD} (hz : fitS z) (l : List Int) {n : Nat} (hn : n ≤ 9094988921128908188) : l.foldl (thin z) n ≤ 9094988921128908188 := by
  induction l generalizing n with
  | nil => exact hn
  | cons c r ih => exact ih (thin_le hz hn c)
theorem behind_le {a : Nat} (ha : a ≤ 9094988921128908188) (L : LitD) (b : List Int) {l : List SizeD} (hl : usableB l = true) : behindD a L b l ≤ 9094988921128908188 := by
  unfold behindD
  split
  · exact Nat.le_trans (half_le ha) ha
  · split
    · exact tenths_le ha
    · exact thins_le (find_fit hl _) _ (cap_le _)
theorem thins_snoc (z : SizeD) (n : Nat) (l : List Int) {k : Nat} {c : Int} (h : l[k]? = some c) : (l.take (k + 1)).foldl (thin z) n = thin z ((l.take k).foldl (thin z) n) c := by
  rw [List.take_add_one, h, List.foldl_append]
  rfl

theorem run_min_cap (ts : Array TypeId) (t : TypeId) {x : Nat} (hx : x ≤ 9218868437227405312) (w : World) : (Builtin.min_ ts t #[.float .f64 x, .float .f64 9094988921128908188]).run Try.prog w = .ok (.float .f64 (cap x)) w := by
  have ho : FloatKind.f64.format.order x 9094988921128908188 = some (compare x 9094988921128908188) := order_cap hx
  have e : compare x 9094988921128908188 = if x < 9094988921128908188 then .lt else if x = 9094988921128908188 then .eq else .gt := rfl
  simp only [Builtin.min_, Builtin.min2, List.foldlM_cons, List.foldlM_nil, ho, e]
  unfold cap
  rcases Nat.lt_trichotomy x 9094988921128908188 with h | h | h
  · rw [if_pos h, if_pos (show x ≤ 9094988921128908188 by omega)]; simp [Sem.run_bind, Sem.run_pure, Result.andThen]
  · rw [if_neg (show ¬ x < 9094988921128908188 by omega), if_pos h, if_pos (show x ≤ 9094988921128908188 by omega)]; subst h; simp [Sem.run_bind, Sem.run_pure, Result.andThen]
  · rw [if_neg (show ¬ x < 9094988921128908188 by omega), if_neg (show ¬ x = 9094988921128908188 by omega), if_neg (show ¬ x ≤ 9094988921128908188 by omega)]; simp [Sem.run_bind, Sem.run_pure, Result.andThen]
theorem run_conv (n : Int) (w : World) : (convert 3 49 (.int .i64 n)).run Try.prog w = .ok (.float .f64 (ofInt n)) w := run_convert_int_float (P := Try.prog) w 3 49 .i64 .f64 n (by kernel_rfl) (by kernel_rfl)
theorem run_fmul {a b : Nat} (ha : a < 9218868437227405312) (hb : b < 9218868437227405312) (w : World) : (binOp .mul 49 (.float .f64 a) (.float .f64 b)).run Try.prog w = .ok (.float .f64 (fmul a b)) w := run_float_arith w .mul _ .f64 a b _ (mul_ok ha hb)
theorem run_fdiv {a b : Nat} (ha : a < 9218868437227405312) (hb : b < 9218868437227405312) (h0 : 0 < b) (w : World) : (binOp .quo 49 (.float .f64 a) (.float .f64 b)).run Try.prog w = .ok (.float .f64 (fdiv a b)) w := run_float_arith w .quo _ .f64 a b _ (div_ok ha hb h0)

set_option maxRecDepth 100000 in
theorem behind2_any (b a : Nat) (ha : a ≤ 9094988921128908188) (w : World) (h : w.cell? ⟨b, 0, none⟩ = some (.float .f64 a)) : Calls Try.prog 72 #[.pointer (some ⟨b, 0, none⟩)] w fun e w' => e = .returned (.float .f64 (fdiv a 4611686018427387904)) ∧ w' = w := by
  have hd := fun w => run_fdiv (a := a) (b := 4611686018427387904) (by omega) (by decide) (by decide) w
  have hb := World.block_lt_of_cell? w _ h
  clear ha
  go_enter Try.func72, Try.ntmps72
  go_wp2_with fail
  go_ret
  exact ⟨rfl, rfl⟩
set_option maxRecDepth 100000 in
theorem behind3_any (b a : Nat) (ha : a ≤ 9094988921128908188) (w : World) (h : w.cell? ⟨b, 0, none⟩ = some (.float .f64 a)) : Calls Try.prog 73 #[.pointer (some ⟨b, 0, none⟩)] w fun e w' => e = .returned (.float .f64 (tenths a)) ∧ w' = w := by
  have hm := fun w => run_fmul (a := a) (b := 4621256167635550208) (by omega) (by decide) w
  have hd := fun w => run_fdiv (a := fmul a 4621256167635550208) (b := 4621819117588971520) (mul9_fin ha) (by decide) (by decide) w
  have hb := World.block_lt_of_cell? w _ h
  clear ha
  go_enter Try.func73, Try.ntmps73
  go_wp2_with fail
  go_ret
  exact ⟨rfl, rfl⟩
set_option maxRecDepth 100000 in
theorem samePred_any (b : Nat) (s : SizeD) (sv : Value) (pred : ByteArray) (n : Nat) (w : World) (hs : IntsIn n w sv s.dist) (h : w.cell? ⟨b, 1, none⟩ = some (.string pred)) : Calls Try.prog 71 #[sizeV s sv, .pointer (some ⟨b, 0, none⟩)] w fun e w' => e = .returned (.bool (decide (s.pred = pred))) ∧ Keep (fun b => b < w.heap.size) w w' := by
  obtain ⟨p, rows, dist⟩ := s
  obtain ⟨a, c, rfl, -, -, -⟩ := hs
  unfold sizeV
  simp only
  have hb := World.block_lt_of_cell? w _ h
  by_cases he : p = pred
  · have hE : decide (p = pred) = true := decide_eq_true he
    have hbb := bytes_same he
    clear he
    have XhE := Lib.hid hE
    clear hE
    go_enter Try.func71, Try.ntmps71
    go_wp2_with fail
    go_ret
    exact ⟨by rw [XhE.out]; first | rfl | simp [hbb], Keep.alloc _ _ _⟩
  · have hE : decide (p = pred) = false := decide_eq_false he
    have hbb := bytes_other he
    clear he
    have XhE := Lib.hid hE
    clear hE
    go_enter Try.func71, Try.ntmps71
    go_wp2_with fail
    go_ret
    exact ⟨by rw [XhE.out]; first | rfl | simp [hbb], Keep.alloc _ _ _⟩
end Go.Proofs
