/- Small functions that only read: sameInts, in. -/
import Derived.Test.YtdedcebabimioaaProg
import Derived.Test.YtdedcebabimioaaData
import Derived.Deep.QuietTactic
import Derived.BigQuiet
import Derived.Laws.StructEq
namespace Go.Proofs
open Go.RowKit Go.Ink
set_option linter.unusedVariables false
set_option linter.unusedSimpArgs false
attribute [local go_sem] Oper.semAt_some

theorem Keep.drewN' (C : Nat → Prop) (w : World) (n : Nat) : Keep C w (w.drewN n) := ⟨rfl, rfl, rfl, Nat.le_refl _, fun _ _ _ => rfl⟩
theorem str_same {a b : ByteArray} (h : a = b) : (a.toList == b.toList) = true := by simp [h]
theorem str_other {a b : ByteArray} (h : a ≠ b) : (a.toList == b.toList) = false := by
  rw [← beq_toListBytes]
  simpa using h
theorem eq_at {α : Type} [DecidableEq α] {xs ys : List α} (hl : xs.length = ys.length) (h : ∀ j, j < xs.length → xs[j]? = ys[j]?) : xs = ys := by
  refine List.ext_getElem? fun j => ?_
  rcases Nat.lt_or_ge j xs.length with hj | hj
  · exact h j hj
  · rw [List.getElem?_eq_none hj, List.getElem?_eq_none (by omega)]

set_option maxRecDepth 100000 in
theorem sameInts_any (n : Nat) (va vb : Value) (xs ys : List Int) (w : World) (ha : IntsIn n w va xs) (hb : IntsIn n w vb ys) (hn : n ≤ w.heap.size) :
    Calls Try.prog 20 #[va, vb] w fun e w' => e = .returned (.bool (decide (xs = ys))) ∧ Keep (fun _ => True) w w' := by
  obtain ⟨aa, ca, rfl, hla, hca, hea⟩ := id ha
  obtain ⟨ab, cb, rfl, hlb, hcb, heb⟩ := id hb
  have Xha := Lib.hid ha
  have Xhb := Lib.hid hb
  have Xhea := Lib.hid hea
  have Xheb := Lib.hid heb
  clear ha hb hea heb
  go_enter Try.func20, Try.ntmps20
  by_cases hl : xs.length = ys.length
  · have hl1 : ((xs.length : Int) != ys.length) = false := by simp [hl]
    have Xhl := Lib.hid hl
    clear hl
    go_wp2_with fail
    go_loopw [5] (fun i wr => ∃ k : Nat, k ≤ xs.length ∧ i = .int .i64 k ∧ Keep (fun _ => True) w wr ∧ ∀ j, j < k → xs[j]? = ys[j]?) (fun i _ => xs.length - (intOf i).toNat)
    case atStart => exact ⟨0, by omega, rfl, Keep.refl _ _, fun j h => by omega⟩
    case round =>
      obtain ⟨k, hk, rfl, hK, hall⟩ := hrel
      have hll := Xhl.out
      by_cases hlt : k < xs.length
      · obtain ⟨x, hx⟩ : ∃ x, xs[k]? = some x := ⟨_, List.getElem?_eq_getElem hlt⟩
        obtain ⟨y, hy⟩ : ∃ y, ys[k]? = some y := ⟨_, List.getElem?_eq_getElem (by omega)⟩
        obtain ⟨ba, oa, rfl, hba, hxa⟩ := Xhea.out k x hx
        obtain ⟨bb, ob, rfl, hbb, hyb⟩ := Xheb.out k y hy
        have f1 := hK.cell hxa trivial
        have f2 := hK.cell hyb trivial
        simp only [Nat.mul_one] at f1 f2
        have hs := hK.size
        have hb1 : ba < wr.heap.size := by omega
        have hb2 : bb < wr.heap.size := by omega
        have hlt1 : (k : Int) < xs.length := by omega
        have hlt2 : (k : Int) < ys.length := by omega
        have hk0 : (0 : Int) ≤ k := by omega
        by_cases hxy : x = y
        · have hne : (x != y) = false := by simp [hxy]
          have hall2 : ∀ j, j < k + 1 → xs[j]? = ys[j]? := fun j hj => by
            rcases Nat.lt_succ_iff_lt_or_eq.1 hj with h | rfl
            · exact hall j h
            · rw [hx, hy, hxy]
          clear hall hx hy hxy hxa hyb hl1
          have Xhall2 := Lib.hid hall2
          have XhK := Lib.hid hK
          clear hall2 hK
          go_wp2_with fail
          go_quiet (fail)
          go_wp2_with fail
          go_roundw
          case rel => exact ⟨k + 1, by omega, by go_num, XhK.out.trans (Keep.drewN' _ _ _), Xhall2.out⟩
          case measure => simp [intOf]; omega
        · have hne : (x != y) = true := by simp [hxy]
          have hno : decide (xs = ys) = false := by
            simp only [decide_eq_false_iff_not]
            intro e; subst e; rw [hx] at hy; cases hy; exact hxy rfl
          clear hall hx hy hxy hxa hyb hl1
          have Xhno := Lib.hid hno
          have XhK := Lib.hid hK
          clear hno hK
          go_wp2_with fail
          go_quiet (fail)
          go_wp2_with fail
          go_ret
          exact ⟨by rw [Xhno.out]; try rfl, XhK.out.trans (Keep.drewN' _ _ _)⟩
      · have hyes : decide (xs = ys) = true := by
          simp only [decide_eq_true_eq]
          exact eq_at hll fun j hj => hall j (by omega)
        clear hall
        have Xhyes := Lib.hid hyes
        have XhK := Lib.hid hK
        clear hyes hK
        go_wp2_with fail
        go_ret
        exact ⟨by rw [Xhyes.out]; try rfl, XhK.out⟩
  · have hl1 : ((xs.length : Int) != ys.length) = true := by simp; omega
    have hno : decide (xs = ys) = false := by
      simp only [decide_eq_false_iff_not]
      intro e; exact hl (by rw [e])
    clear hl
    have Xhno := Lib.hid hno
    clear hno
    go_wp2_with fail
    go_ret
    exact ⟨by rw [Xhno.out]; try rfl, Keep.refl _ _⟩

set_option maxRecDepth 100000 in
theorem in_any (n : Nat) (va : Value) (xs : List ByteArray) (x : ByteArray) (w : World) (ha : StrsIn n w va xs) (hn : n ≤ w.heap.size) :
    Calls Try.prog 21 #[va, .string x] w fun e w' => e = .returned (.bool (decide (x ∈ xs))) ∧ Keep (fun _ => True) w w' := by
  obtain ⟨aa, ca, rfl, hla, hca, hea⟩ := id ha
  have Xha := Lib.hid ha
  have Xhea := Lib.hid hea
  clear ha hea
  go_enter Try.func21, Try.ntmps21
  go_wp2_with fail
  go_loopw [5] (fun i wr => ∃ k : Nat, k ≤ xs.length ∧ i = .int .i64 k ∧ Keep (fun _ => True) w wr ∧ x ∉ xs.take k) (fun i _ => xs.length - (intOf i).toNat)
  case atStart => exact ⟨0, by omega, rfl, Keep.refl _ _, by simp⟩
  case round =>
    obtain ⟨k, hk, rfl, hK, hall⟩ := hrel
    by_cases hlt : k < xs.length
    · obtain ⟨y, hx⟩ : ∃ x, xs[k]? = some x := ⟨_, List.getElem?_eq_getElem hlt⟩
      obtain ⟨ba, oa, rfl, hba, hxa⟩ := Xhea.out k y hx
      have f1 := hK.cell hxa trivial
      simp only [Nat.mul_one] at f1
      have hs := hK.size
      have hb1 : ba < wr.heap.size := by omega
      have hlt1 : (k : Int) < xs.length := by omega
      have hk0 : (0 : Int) ≤ k := by omega
      by_cases hxy : y = x
      · have hne := str_same hxy
        have hyes : decide (x ∈ xs) = true := by
          simp only [decide_eq_true_eq]
          rw [← hxy]; exact List.mem_of_getElem? hx
        clear hall hx hxy hxa
        have Xhyes := Lib.hid hyes
        have XhK := Lib.hid hK
        clear hyes hK
        go_wp2_with fail
        go_ret
        exact ⟨by rw [Xhyes.out]; try rfl, XhK.out⟩
      · have hne := str_other hxy
        have hall2 : x ∉ xs.take (k + 1) := by
          rw [List.take_add_one, hx]
          simp only [Option.toList_some, List.mem_append, List.mem_singleton, not_or]
          exact ⟨hall, fun e => hxy e.symm⟩
        clear hall hx hxy hxa
        have Xhall2 := Lib.hid hall2
        have XhK := Lib.hid hK
        clear hall2 hK
        go_wp2_with fail
        go_roundw
        case rel => exact ⟨k + 1, by omega, by go_num, XhK.out, Xhall2.out⟩
        case measure => simp [intOf]; omega
    · have hno : decide (x ∈ xs) = false := by
        simp only [decide_eq_false_iff_not]
        rw [List.take_of_length_le (by omega)] at hall
        exact hall
      clear hall
      have Xhno := Lib.hid hno
      have XhK := Lib.hid hK
      clear hno hK
      go_wp2_with fail
      go_ret
      exact ⟨by rw [Xhno.out]; try rfl, XhK.out⟩
end Go.Proofs
