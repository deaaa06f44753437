/- Layer 16 (plan): lists of ints and of texts: equal, contained; printed by wip/tools/cc/gen_pnj.py. -/
import Derived.Test.YtichfebfcapnhaaProg
import Derived.Test.YtichfebfcapnhaaPnB
import Derived.Test.YtichfebfcapnhaaPnC
import Derived.Test.YtichfebfcapnhaaOwnToRowC
import Derived.Deep.QuietTactic
import Derived.BigQuiet
import Derived.Laws.StructEq
namespace Go.Proofs
open Go.RowKit Go.Ink
set_option linter.unusedVariables false
set_option linter.unusedSimpArgs false
attribute [local go_sem] Oper.semAt_some

set_option maxRecDepth 100000 in
theorem refSameInts_any (n : Nat) (va vb : Value) (xs ys : List Int) (w : World) (ha : IntsIn n w va xs) (hb : IntsIn n w vb ys) (hn : n ≤ w.heap.size) :
    Calls Try.prog 35 #[va, vb] w fun e w' => e = .returned (.bool (decide (xs = ys))) ∧ Keep (fun _ => True) w w' := by
  obtain ⟨aa, ca, rfl, hla, hca, hea⟩ := id ha
  obtain ⟨ab, cb, rfl, hlb, hcb, heb⟩ := id hb
  have Xha := Lib.hid ha
  have Xhb := Lib.hid hb
  have Xhea := Lib.hid hea
  have Xheb := Lib.hid heb
  clear ha hb hea heb
  go_enter Try.func35, Try.ntmps35
  by_cases hl : xs.length = ys.length
  · have hl1 : ((xs.length : Int) != ys.length) = false := by simp [hl]
    have Xhl := Lib.hid hl
    clear hl
    go_wp2_with fail
    go_loopw [5] (fun i wr => ∃ k : Nat, k ≤ xs.length ∧ i = .int .i64 (k : Int) ∧ Keep (fun _ => True) w wr ∧ ∀ j, j < k → xs[j]? = ys[j]?) (fun i _ => xs.length - (intOf i).toNat)
    case atStart => exact ⟨0, by omega, rfl, Keep.refl _ _, fun j h => by omega⟩
    case round =>
      obtain ⟨k, hk, rfl, hK, hall⟩ := hrel
      have hll := Xhl.out
      by_cases hlt : k < xs.length
      · obtain ⟨x, hx⟩ : ∃ x, xs[k]? = some x := ⟨_, List.getElem?_eq_getElem hlt⟩
        obtain ⟨y, hy⟩ : ∃ y, ys[k]? = some y := ⟨_, List.getElem?_eq_getElem (by omega)⟩
        obtain ⟨ba, oa, rfl, hba, hxa⟩ := Xhea.out k x hx
        obtain ⟨bb, ob, rfl, hbb, hyb⟩ := Xheb.out k y hy
        have f1 := hK.cell hxa trivial
        have f2 := hK.cell hyb trivial
        simp only [Nat.mul_one] at f1 f2
        have hs := hK.size
        have hb1 : ba < wr.heap.size := by omega
        have hb2 : bb < wr.heap.size := by omega
        have hlt1 : (k : Int) < xs.length := by omega
        have hlt2 : (k : Int) < ys.length := by omega
        have hk0 : (0 : Int) ≤ k := by omega
        by_cases hxy : x = y
        · have hne : (x != y) = false := by simp [hxy]
          have hall2 : ∀ j, j < k + 1 → xs[j]? = ys[j]? := fun j hj => by
            rcases Nat.lt_succ_iff_lt_or_eq.1 hj with h | rfl
            · exact hall j h
            · rw [hx, hy, hxy]
          clear hall hx hy hxy hxa hyb hl1
          have Xhall2 := Lib.hid hall2
          have XhK := Lib.hid hK
          clear hall2 hK
          go_wp2_with fail
          go_quiet (fail)
          go_wp2_with fail
          go_roundw
          case rel => exact ⟨k + 1, by omega, by go_num, XhK.out.trans (Keep.drewN' _ _ _), Xhall2.out⟩
          case measure => simp [intOf]; omega
        · have hne : (x != y) = true := by simp [hxy]
          have hno : decide (xs = ys) = false := by
            simp only [decide_eq_false_iff_not]
            intro e; subst e; rw [hx] at hy; cases hy; exact hxy rfl
          clear hall hx hy hxy hxa hyb hl1
          have Xhno := Lib.hid hno
          have XhK := Lib.hid hK
          clear hno hK
          go_wp2_with fail
          go_quiet (fail)
          go_wp2_with fail
          go_ret
          exact ⟨by rw [Xhno.out]; try rfl, XhK.out.trans (Keep.drewN' _ _ _)⟩
      · have hyes : decide (xs = ys) = true := by
          simp only [decide_eq_true_eq]
          exact eq_at hll fun j hj => hall j (by omega)
        clear hall
        have Xhyes := Lib.hid hyes
        have XhK := Lib.hid hK
        clear hyes hK
        go_wp2_with fail
        go_ret
        exact ⟨by rw [Xhyes.out]; try rfl, XhK.out⟩
  · have hl1 : ((xs.length : Int) != ys.length) = true := by simp; omega
    have hno : decide (xs = ys) = false := by
      simp only [decide_eq_false_iff_not]
      intro e; exact hl (by rw [e])
    clear hl
    have Xhno := Lib.hid hno
    clear hno
    go_wp2_with fail
    go_ret
    exact ⟨by rw [Xhno.out]; try rfl, Keep.refl _ _⟩

set_option maxRecDepth 100000 in
theorem eqInts_any (n : Nat) (va vb : Value) (xs ys : List Int) (w : World) (ha : IntsIn n w va xs) (hb : IntsIn n w vb ys) (hn : n ≤ w.heap.size) :
    Calls Try.prog 54 #[va, vb] w fun e w' => e = .returned (.bool (decide (xs = ys))) ∧ Keep (fun _ => True) w w' := by
  obtain ⟨aa, ca, rfl, hla, hca, hea⟩ := id ha
  obtain ⟨ab, cb, rfl, hlb, hcb, heb⟩ := id hb
  have Xha := Lib.hid ha
  have Xhb := Lib.hid hb
  have Xhea := Lib.hid hea
  have Xheb := Lib.hid heb
  clear ha hb hea heb
  go_enter Try.func54, Try.ntmps54
  by_cases hl : xs.length = ys.length
  · have hl1 : ((xs.length : Int) != ys.length) = false := by simp [hl]
    have Xhl := Lib.hid hl
    clear hl
    go_wp2_with fail
    go_loopw [13] (fun i wr => ∃ k : Nat, k ≤ xs.length ∧ i = .int .i64 (k : Int) ∧ Keep (fun _ => True) w wr ∧ ∀ j, j < k → xs[j]? = ys[j]?) (fun i _ => xs.length - (intOf i).toNat)
    case atStart => exact ⟨0, by omega, rfl, Keep.refl _ _, fun j h => by omega⟩
    case round =>
      obtain ⟨k, hk, rfl, hK, hall⟩ := hrel
      have hll := Xhl.out
      by_cases hlt : k < xs.length
      · obtain ⟨x, hx⟩ : ∃ x, xs[k]? = some x := ⟨_, List.getElem?_eq_getElem hlt⟩
        obtain ⟨y, hy⟩ : ∃ y, ys[k]? = some y := ⟨_, List.getElem?_eq_getElem (by omega)⟩
        obtain ⟨ba, oa, rfl, hba, hxa⟩ := Xhea.out k x hx
        obtain ⟨bb, ob, rfl, hbb, hyb⟩ := Xheb.out k y hy
        have f1 := hK.cell hxa trivial
        have f2 := hK.cell hyb trivial
        simp only [Nat.mul_one] at f1 f2
        have hs := hK.size
        have hb1 : ba < wr.heap.size := by omega
        have hb2 : bb < wr.heap.size := by omega
        have hlt1 : (k : Int) < xs.length := by omega
        have hlt2 : (k : Int) < ys.length := by omega
        have hk0 : (0 : Int) ≤ k := by omega
        by_cases hxy : x = y
        · have hne : (x != y) = false := by simp [hxy]
          have hall2 : ∀ j, j < k + 1 → xs[j]? = ys[j]? := fun j hj => by
            rcases Nat.lt_succ_iff_lt_or_eq.1 hj with h | rfl
            · exact hall j h
            · rw [hx, hy, hxy]
          clear hall hx hy hxy hxa hyb hl1
          have Xhall2 := Lib.hid hall2
          have XhK := Lib.hid hK
          clear hall2 hK
          go_wp2_with fail
          go_quiet (fail)
          go_wp2_with fail
          go_roundw
          case rel => exact ⟨k + 1, by omega, by go_num, XhK.out.trans (Keep.drewN' _ _ _), Xhall2.out⟩
          case measure => simp [intOf]; omega
        · have hne : (x != y) = true := by simp [hxy]
          have hno : decide (xs = ys) = false := by
            simp only [decide_eq_false_iff_not]
            intro e; subst e; rw [hx] at hy; cases hy; exact hxy rfl
          clear hall hx hy hxy hxa hyb hl1
          have Xhno := Lib.hid hno
          have XhK := Lib.hid hK
          clear hno hK
          go_wp2_with fail
          go_quiet (fail)
          go_wp2_with fail
          go_ret
          exact ⟨by rw [Xhno.out]; try rfl, XhK.out.trans (Keep.drewN' _ _ _)⟩
      · have hyes : decide (xs = ys) = true := by
          simp only [decide_eq_true_eq]
          exact eq_at hll fun j hj => hall j (by omega)
        clear hall
        have Xhyes := Lib.hid hyes
        have XhK := Lib.hid hK
        clear hyes hK
        go_wp2_with fail
        go_ret
        exact ⟨by rw [Xhyes.out]; try rfl, XhK.out⟩
  · have hl1 : ((xs.length : Int) != ys.length) = true := by simp; omega
    have hno : decide (xs = ys) = false := by
      simp only [decide_eq_false_iff_not]
      intro e; exact hl (by rw [e])
    clear hl
    have Xhno := Lib.hid hno
    clear hno
    go_wp2_with fail
    go_ret
    exact ⟨by rw [Xhno.out]; try rfl, Keep.refl _ _⟩

set_option maxRecDepth 100000 in
theorem refSameTexts_any (n : Nat) (va vb : Value) (xs ys : List ByteArray) (w : World) (ha : StrsIn n w va xs) (hb : StrsIn n w vb ys) (hn : n ≤ w.heap.size) :
    Calls Try.prog 78 #[va, vb] w fun e w' => e = .returned (.bool (decide (xs = ys))) ∧ Keep (fun _ => True) w w' := by
  obtain ⟨aa, ca, rfl, hla, hca, hea⟩ := id ha
  obtain ⟨ab, cb, rfl, hlb, hcb, heb⟩ := id hb
  have Xha := Lib.hid ha
  have Xhb := Lib.hid hb
  have Xhea := Lib.hid hea
  have Xheb := Lib.hid heb
  clear ha hb hea heb
  go_enter Try.func78, Try.ntmps78
  by_cases hl : xs.length = ys.length
  · have hl1 : ((xs.length : Int) != ys.length) = false := by simp [hl]
    have Xhl := Lib.hid hl
    clear hl
    go_wp2_with fail
    go_loopw [5] (fun i wr => ∃ k : Nat, k ≤ xs.length ∧ i = .int .i64 (k : Int) ∧ Keep (fun _ => True) w wr ∧ ∀ j, j < k → xs[j]? = ys[j]?) (fun i _ => xs.length - (intOf i).toNat)
    case atStart => exact ⟨0, by omega, rfl, Keep.refl _ _, fun j h => by omega⟩
    case round =>
      obtain ⟨k, hk, rfl, hK, hall⟩ := hrel
      have hll := Xhl.out
      by_cases hlt : k < xs.length
      · obtain ⟨x, hx⟩ : ∃ x, xs[k]? = some x := ⟨_, List.getElem?_eq_getElem hlt⟩
        obtain ⟨y, hy⟩ : ∃ y, ys[k]? = some y := ⟨_, List.getElem?_eq_getElem (by omega)⟩
        obtain ⟨ba, oa, rfl, hba, hxa⟩ := Xhea.out k x hx
        obtain ⟨bb, ob, rfl, hbb, hyb⟩ := Xheb.out k y hy
        have f1 := hK.cell hxa trivial
        have f2 := hK.cell hyb trivial
        simp only [Nat.mul_one] at f1 f2
        have hs := hK.size
        have hb1 : ba < wr.heap.size := by omega
        have hb2 : bb < wr.heap.size := by omega
        have hlt1 : (k : Int) < xs.length := by omega
        have hlt2 : (k : Int) < ys.length := by omega
        have hk0 : (0 : Int) ≤ k := by omega
        by_cases hxy : x = y
        · have hne : (x.toList == y.toList) = true := bytes_same hxy
          have hall2 : ∀ j, j < k + 1 → xs[j]? = ys[j]? := fun j hj => by
            rcases Nat.lt_succ_iff_lt_or_eq.1 hj with h | rfl
            · exact hall j h
            · rw [hx, hy, hxy]
          clear hall hx hy hxy hxa hyb hl1
          have Xhall2 := Lib.hid hall2
          have XhK := Lib.hid hK
          clear hall2 hK
          go_wp2_with fail
          go_quiet (fail)
          go_wp2_with fail
          go_roundw
          case rel => exact ⟨k + 1, by omega, by go_num, XhK.out.trans (Keep.drewN' _ _ _), Xhall2.out⟩
          case measure => simp [intOf]; omega
        · have hne : (x.toList == y.toList) = false := bytes_other hxy
          have hno : decide (xs = ys) = false := by
            simp only [decide_eq_false_iff_not]
            intro e; subst e; rw [hx] at hy; cases hy; exact hxy rfl
          clear hall hx hy hxy hxa hyb hl1
          have Xhno := Lib.hid hno
          have XhK := Lib.hid hK
          clear hno hK
          go_wp2_with fail
          go_quiet (fail)
          go_wp2_with fail
          go_ret
          exact ⟨by rw [Xhno.out]; try rfl, XhK.out.trans (Keep.drewN' _ _ _)⟩
      · have hyes : decide (xs = ys) = true := by
          simp only [decide_eq_true_eq]
          exact eq_at hll fun j hj => hall j (by omega)
        clear hall
        have Xhyes := Lib.hid hyes
        have XhK := Lib.hid hK
        clear hyes hK
        go_wp2_with fail
        go_ret
        exact ⟨by rw [Xhyes.out]; try rfl, XhK.out⟩
  · have hl1 : ((xs.length : Int) != ys.length) = true := by simp; omega
    have hno : decide (xs = ys) = false := by
      simp only [decide_eq_false_iff_not]
      intro e; exact hl (by rw [e])
    clear hl
    have Xhno := Lib.hid hno
    clear hno
    go_wp2_with fail
    go_ret
    exact ⟨by rw [Xhno.out]; try rfl, Keep.refl _ _⟩

set_option maxRecDepth 100000 in
theorem eqTexts_any (n : Nat) (va vb : Value) (xs ys : List ByteArray) (w : World) (ha : StrsIn n w va xs) (hb : StrsIn n w vb ys) (hn : n ≤ w.heap.size) :
    Calls Try.prog 55 #[va, vb] w fun e w' => e = .returned (.bool (decide (xs = ys))) ∧ Keep (fun _ => True) w w' := by
  obtain ⟨aa, ca, rfl, hla, hca, hea⟩ := id ha
  obtain ⟨ab, cb, rfl, hlb, hcb, heb⟩ := id hb
  have Xha := Lib.hid ha
  have Xhb := Lib.hid hb
  have Xhea := Lib.hid hea
  have Xheb := Lib.hid heb
  clear ha hb hea heb
  go_enter Try.func55, Try.ntmps55
  by_cases hl : xs.length = ys.length
  · have hl1 : ((xs.length : Int) != ys.length) = false := by simp [hl]
    have Xhl := Lib.hid hl
    clear hl
    go_wp2_with fail
    go_loopw [13] (fun i wr => ∃ k : Nat, k ≤ xs.length ∧ i = .int .i64 (k : Int) ∧ Keep (fun _ => True) w wr ∧ ∀ j, j < k → xs[j]? = ys[j]?) (fun i _ => xs.length - (intOf i).toNat)
    case atStart => exact ⟨0, by omega, rfl, Keep.refl _ _, fun j h => by omega⟩
    case round =>
      obtain ⟨k, hk, rfl, hK, hall⟩ := hrel
      have hll := Xhl.out
      by_cases hlt : k < xs.length
      · obtain ⟨x, hx⟩ : ∃ x, xs[k]? = some x := ⟨_, List.getElem?_eq_getElem hlt⟩
        obtain ⟨y, hy⟩ : ∃ y, ys[k]? = some y := ⟨_, List.getElem?_eq_getElem (by omega)⟩
        obtain ⟨ba, oa, rfl, hba, hxa⟩ := Xhea.out k x hx
        obtain ⟨bb, ob, rfl, hbb, hyb⟩ := Xheb.out k y hy
        have f1 := hK.cell hxa trivial
        have f2 := hK.cell hyb trivial
        simp only [Nat.mul_one] at f1 f2
        have hs := hK.size
        have hb1 : ba < wr.heap.size := by omega
        have hb2 : bb < wr.heap.size := by omega
        have hlt1 : (k : Int) < xs.length := by omega
        have hlt2 : (k : Int) < ys.length := by omega
        have hk0 : (0 : Int) ≤ k := by omega
        by_cases hxy : x = y
        · have hne : (x.toList == y.toList) = true := bytes_same hxy
          have hall2 : ∀ j, j < k + 1 → xs[j]? = ys[j]? := fun j hj => by
            rcases Nat.lt_succ_iff_lt_or_eq.1 hj with h | rfl
            · exact hall j h
            · rw [hx, hy, hxy]
          clear hall hx hy hxy hxa hyb hl1
          have Xhall2 := Lib.hid hall2
          have XhK := Lib.hid hK
          clear hall2 hK
          go_wp2_with fail
          go_quiet (fail)
          go_wp2_with fail
          go_roundw
          case rel => exact ⟨k + 1, by omega, by go_num, XhK.out.trans (Keep.drewN' _ _ _), Xhall2.out⟩
          case measure => simp [intOf]; omega
        · have hne : (x.toList == y.toList) = false := bytes_other hxy
          have hno : decide (xs = ys) = false := by
            simp only [decide_eq_false_iff_not]
            intro e; subst e; rw [hx] at hy; cases hy; exact hxy rfl
          clear hall hx hy hxy hxa hyb hl1
          have Xhno := Lib.hid hno
          have XhK := Lib.hid hK
          clear hno hK
          go_wp2_with fail
          go_quiet (fail)
          go_wp2_with fail
          go_ret
          exact ⟨by rw [Xhno.out]; try rfl, XhK.out.trans (Keep.drewN' _ _ _)⟩
      · have hyes : decide (xs = ys) = true := by
          simp only [decide_eq_true_eq]
          exact eq_at hll fun j hj => hall j (by omega)
        clear hall
        have Xhyes := Lib.hid hyes
        have XhK := Lib.hid hK
        clear hyes hK
        go_wp2_with fail
        go_ret
        exact ⟨by rw [Xhyes.out]; try rfl, XhK.out⟩
  · have hl1 : ((xs.length : Int) != ys.length) = true := by simp; omega
    have hno : decide (xs = ys) = false := by
      simp only [decide_eq_false_iff_not]
      intro e; exact hl (by rw [e])
    clear hl
    have Xhno := Lib.hid hno
    clear hno
    go_wp2_with fail
    go_ret
    exact ⟨by rw [Xhno.out]; try rfl, Keep.refl _ _⟩

set_option maxRecDepth 100000 in
theorem refIn_any (n : Nat) (va : Value) (xs : List ByteArray) (x : ByteArray) (w : World) (ha : StrsIn n w va xs) (hn : n ≤ w.heap.size) :
    Calls Try.prog 58 #[va, .string x] w fun e w' => e = .returned (.bool (decide (x ∈ xs))) ∧ w' = w := by
  obtain ⟨aa, ca, rfl, hla, hca, hea⟩ := id ha
  have Xha := Lib.hid ha
  have Xhea := Lib.hid hea
  clear ha hea
  go_enter Try.func58, Try.ntmps58
  go_wp2_with fail
  go_loopw [5] (fun i wr => ∃ k : Nat, k ≤ xs.length ∧ i = .int .i64 (k : Int) ∧ wr = w ∧ x ∉ xs.take k) (fun i _ => xs.length - (intOf i).toNat)
  case atStart => exact ⟨0, by omega, rfl, rfl, by simp⟩
  case round =>
    obtain ⟨k, hk, rfl, hw, hall⟩ := hrel
    have hw := hw.symm
    subst hw
    by_cases hlt : k < xs.length
    · obtain ⟨y, hx⟩ : ∃ x, xs[k]? = some x := ⟨_, List.getElem?_eq_getElem hlt⟩
      obtain ⟨ba, oa, rfl, hba, f1⟩ := Xhea.out k y hx
      unfold StrE at f1
      simp only [Nat.mul_one] at f1
      have hb1 : ba < w.heap.size := by omega
      have hlt1 : (k : Int) < xs.length := by omega
      have hk0 : (0 : Int) ≤ k := by omega
      have hall2 : ∀ z, z ∉ xs.take k → ¬ z = y → z ∉ xs.take (k + 1) := fun z h1 h2 => by
        rw [List.take_add_one, hx]
        simp only [Option.toList_some, List.mem_append, List.mem_singleton, not_or]
        exact ⟨h1, h2⟩
      by_cases hxy : x = y
      · have hne := bytes_same hxy.symm
        have hyes := (decide_eq_true (show x ∈ xs from by rw [hxy]; exact List.mem_of_getElem? hx) : decide (x ∈ xs) = true)
        clear hall hx hxy hall2
        have Xhyes := Lib.hid hyes
        clear hyes
        go_wp2_with fail
        go_ret
        exact ⟨by rw [Xhyes.out]; try rfl, rfl⟩
      · have hne := bytes_other (fun e => hxy e.symm)
        have hall3 := hall2 x hall hxy
        clear hall hx hxy hall2
        have Xhall3 := Lib.hid hall3
        clear hall3
        go_wp2_with fail
        go_roundw
        case rel => exact ⟨k + 1, by omega, by go_num, by trivial, Xhall3.out⟩
        case measure => simp [intOf]; omega
    · have hno := (decide_eq_false (show x ∉ xs from by rwa [List.take_of_length_le (by omega)] at hall) : decide (x ∈ xs) = false)
      clear hall
      have Xhno := Lib.hid hno
      clear hno
      go_wp2_with fail
      go_ret
      exact ⟨by rw [Xhno.out]; try rfl, rfl⟩

def idxT (x : ByteArray) (xs : List ByteArray) : Int := findI (fun y => decide (x = y)) xs
theorem idxT_in (x : ByteArray) (xs : List ByteArray) : decide (idxT x xs ≥ 0) = decide (x ∈ xs) := by
  unfold idxT
  rw [findI_any']
  rw [Bool.eq_iff_iff, List.any_eq_true, decide_eq_true_eq]
  exact ⟨fun ⟨y, h1, h2⟩ => by rw [of_decide_eq_true h2]; exact h1, fun h => ⟨x, h, by simp⟩⟩
theorem idxT_take {x : ByteArray} {xs : List ByteArray} (h : x ∉ xs) : xs.any (fun y => decide (x = y)) = false := by
  rw [List.any_eq_false]
  intro y hy e
  exact h (by rw [of_decide_eq_true e]; exact hy)
set_option maxRecDepth 100000 in
theorem index_any (n : Nat) (va : Value) (xs : List ByteArray) (x : ByteArray) (w : World) (ha : StrsIn n w va xs) (hn : n ≤ w.heap.size) :
    Calls Try.prog 91 #[va, .string x] w fun e w' => e = .returned (.int .i64 (idxT x xs)) ∧ w' = w := by
  obtain ⟨aa, ca, rfl, hla, hca, hea⟩ := id ha
  have Xha := Lib.hid ha
  have Xhea := Lib.hid hea
  clear ha hea
  go_enter Try.func91, Try.ntmps91
  go_wp2_with fail
  go_loopw [8] (fun i wr => ∃ k : Nat, k ≤ xs.length ∧ i = .int .i64 (k : Int) ∧ wr = w ∧ x ∉ xs.take k) (fun i _ => xs.length - (intOf i).toNat)
  case atStart => exact ⟨0, by omega, rfl, rfl, by simp⟩
  case round =>
    obtain ⟨k, hk, rfl, hw, hall⟩ := hrel
    have hw := hw.symm
    subst hw
    by_cases hlt : k < xs.length
    · obtain ⟨y, hx⟩ : ∃ x, xs[k]? = some x := ⟨_, List.getElem?_eq_getElem hlt⟩
      obtain ⟨ba, oa, rfl, hba, f1⟩ := Xhea.out k y hx
      unfold StrE at f1
      simp only [Nat.mul_one] at f1
      have hb1 : ba < w.heap.size := by omega
      have hlt1 : (k : Int) < xs.length := by omega
      have hk0 : (0 : Int) ≤ k := by omega
      have hall2 : ∀ z, z ∉ xs.take k → ¬ z = y → z ∉ xs.take (k + 1) := fun z h1 h2 => by
        rw [List.take_add_one, hx]
        simp only [Option.toList_some, List.mem_append, List.mem_singleton, not_or]
        exact ⟨h1, h2⟩
      by_cases hxy : x = y
      · have hne := bytes_same hxy
        have hyes := (show idxT x xs = (k : Int) from findI_some (fun y => decide (x = y)) xs k y hx (idxT_take hall) (decide_eq_true hxy))
        clear hall hx hxy hall2
        have Xhyes := Lib.hid hyes
        clear hyes
        go_wp2_with fail
        go_ret
        exact ⟨by rw [Xhyes.out]; try rfl, rfl⟩
      · have hne := bytes_other hxy
        have hall3 := hall2 x hall hxy
        clear hall hx hxy hall2
        have Xhall3 := Lib.hid hall3
        clear hall3
        go_wp2_with fail
        go_roundw
        case rel => exact ⟨k + 1, by omega, by go_num, by trivial, Xhall3.out⟩
        case measure => simp [intOf]; omega
    · have hno := (show idxT x xs = -1 from findI_none (fun y => decide (x = y)) xs (idxT_take (by rwa [List.take_of_length_le (by omega)] at hall)))
      clear hall
      have Xhno := Lib.hid hno
      clear hno
      go_wp2_with fail
      go_ret
      exact ⟨by rw [Xhno.out]; try rfl, rfl⟩

set_option maxRecDepth 100000 in
theorem contains_any (n : Nat) (va : Value) (xs : List ByteArray) (x : ByteArray) (w : World) (ha : StrsIn n w va xs) (hn : n ≤ w.heap.size) :
    Calls Try.prog 74 #[va, .string x] w fun e w' => e = .returned (.bool (decide (x ∈ xs))) ∧ w' = w := by
  have h1 := fun w (ha : StrsIn n w va xs) hn => index_any n va xs x w ha hn
  have h1 := h1 w ha hn
  have hE := idxT_in x xs
  obtain ⟨i, hi⟩ : ∃ i, idxT x xs = i := ⟨_, rfl⟩
  rw [hi] at h1 hE
  obtain ⟨aa, ca, rfl, -, -, -⟩ := id ha
  clear ha
  have Xh1 := Lib.hid h1
  have XhE := Lib.hid hE
  have Xhi := Lib.hid hi
  clear h1 hE hi
  go_enter Try.func74, Try.ntmps74
  go_wp2_with fail
  refine Xh1.out.mono ?_
  rintro e w1 ⟨rfl, hw1⟩
  have hw1 := hw1.symm
  subst hw1
  go_wp2_with fail
  go_ret
  exact ⟨by rw [← XhE.out]; rfl, rfl⟩
end Go.Proofs
