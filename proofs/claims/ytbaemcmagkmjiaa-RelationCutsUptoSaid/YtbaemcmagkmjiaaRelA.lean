/- Layer 4: lists of numbers: inklingref04.Same, inklinglaw04.lent, left, num. -/
import Derived.Test.YtbaemcmagkmjiaaProg
import Derived.Test.YtbaemcmagkmjiaaRowC
import Derived.Deep.QuietTactic
import Derived.BigQuiet
import Derived.Laws.StructEq
namespace Go.Proofs
open Go.RowKit Go.Ink
set_option linter.unusedVariables false
set_option linter.unusedSimpArgs false
attribute [local go_sem] Oper.semAt_some

def ic (x : Int) : List Value := [.int .i64 x]
theorem ic_map (l : List Int) : l.flatMap ic = l.map (.int .i64) := by
  induction l with
  | nil => rfl
  | cons a l ih => simp [ic, ih]
theorem el_int : ElemOf Try.prog 23 3 1 8 := elem_of (z := .int .i64 0) (by kernel_rfl) (by kernel_rfl) rfl (by decide) (by decide)
theorem ints_stay {n : Nat} {w w' : World} {v : Value} {ss : List Int} (h : IntsIn n w v ss) {m : Nat} (hK : Keep (fun k => k < m) w w') (hm : n ≤ m) : IntsIn n w' v ss :=
  h.mono fun _ _ _ hb h => hK.cell h (Nat.lt_of_lt_of_le hb hm)
theorem ints_wider {n n' : Nat} {w : World} {v : Value} {ss : List Int} (h : IntsIn n w v ss) (hn : n ≤ n') : IntsIn n' w v ss :=
  SliceIn.wider h hn fun _ _ _ _ h => h

set_option maxRecDepth 100000 in
theorem sameL_any (n : Nat) (va vb : Value) (xs ys : List Int) (w : World) (ha : IntsIn n w va xs) (hb : IntsIn n w vb ys) (hn : n ≤ w.heap.size) :
    Calls Try.prog 13 #[va, vb] w fun e w' => e = .returned (.bool (decide (xs = ys))) ∧ Keep (fun _ => True) w w' := by
  obtain ⟨aa, ca, rfl, hla, hca, hea⟩ := id ha
  obtain ⟨ab, cb, rfl, hlb, hcb, heb⟩ := id hb
  have Xha := Lib.hid ha
  have Xhb := Lib.hid hb
  have Xhea := Lib.hid hea
  have Xheb := Lib.hid heb
  clear ha hb hea heb
  go_enter Try.func13, Try.ntmps13
  by_cases hl : xs.length = ys.length
  · have hl1 : ((xs.length : Int) != ys.length) = false := by simp [hl]
    have Xhl := Lib.hid hl
    clear hl
    go_wp2_with fail
    go_loopw [5] (fun i wr => ∃ k : Nat, k ≤ xs.length ∧ i = .int .i64 k ∧ Keep (fun _ => True) w wr ∧ ∀ j, j < k → xs[j]? = ys[j]?) (fun i _ => xs.length - (intOf i).toNat)
    case atStart => exact ⟨0, by omega, rfl, Keep.refl _ _, fun j h => by omega⟩
    case round =>
      obtain ⟨k, hk, rfl, hK, hall⟩ := hrel
      have hll := Xhl.out
      by_cases hlt : k < xs.length
      · obtain ⟨x, hx⟩ : ∃ x, xs[k]? = some x := ⟨_, List.getElem?_eq_getElem hlt⟩
        obtain ⟨y, hy⟩ : ∃ y, ys[k]? = some y := ⟨_, List.getElem?_eq_getElem (by omega)⟩
        obtain ⟨ba, oa, rfl, hba, hxa⟩ := Xhea.out k x hx
        obtain ⟨bb, ob, rfl, hbb, hyb⟩ := Xheb.out k y hy
        have f1 := hK.cell hxa trivial
        have f2 := hK.cell hyb trivial
        simp only [Nat.mul_one] at f1 f2
        have hs := hK.size
        have hb1 : ba < wr.heap.size := by omega
        have hb2 : bb < wr.heap.size := by omega
        have hlt1 : (k : Int) < xs.length := by omega
        have hlt2 : (k : Int) < ys.length := by omega
        have hk0 : (0 : Int) ≤ k := by omega
        by_cases hxy : x = y
        · have hne : (x != y) = false := by simp [hxy]
          have hall2 : ∀ j, j < k + 1 → xs[j]? = ys[j]? := fun j hj => by
            rcases Nat.lt_succ_iff_lt_or_eq.1 hj with h | rfl
            · exact hall j h
            · rw [hx, hy, hxy]
          clear hall hx hy hxy hxa hyb hl1
          have Xhall2 := Lib.hid hall2
          have XhK := Lib.hid hK
          clear hall2 hK
          go_wp2_with fail
          go_quiet (fail)
          go_wp2_with fail
          go_roundw
          case rel => exact ⟨k + 1, by omega, by go_num, XhK.out.trans (Keep.drewN' _ _ _), Xhall2.out⟩
          case measure => simp [intOf]; omega
        · have hne : (x != y) = true := by simp [hxy]
          have hno : decide (xs = ys) = false := by
            simp only [decide_eq_false_iff_not]
            intro e; subst e; rw [hx] at hy; cases hy; exact hxy rfl
          clear hall hx hy hxy hxa hyb hl1
          have Xhno := Lib.hid hno
          have XhK := Lib.hid hK
          clear hno hK
          go_wp2_with fail
          go_quiet (fail)
          go_wp2_with fail
          go_ret
          exact ⟨by rw [Xhno.out]; try rfl, XhK.out.trans (Keep.drewN' _ _ _)⟩
      · have hyes : decide (xs = ys) = true := by
          simp only [decide_eq_true_eq]
          exact eq_at hll fun j hj => hall j (by omega)
        clear hall
        have Xhyes := Lib.hid hyes
        have XhK := Lib.hid hK
        clear hyes hK
        go_wp2_with fail
        go_ret
        exact ⟨by rw [Xhyes.out]; try rfl, XhK.out⟩
  · have hl1 : ((xs.length : Int) != ys.length) = true := by simp; omega
    have hno : decide (xs = ys) = false := by
      simp only [decide_eq_false_iff_not]
      intro e; exact hl (by rw [e])
    clear hl
    have Xhno := Lib.hid hno
    clear hno
    go_wp2_with fail
    go_ret
    exact ⟨by rw [Xhno.out]; try rfl, Keep.refl _ _⟩


/-- lent numbers: a copy with two marks behind -/
abbrev LentIn (base : Nat) (w : World) (v : Value) (l : List Int) : Prop := CopiedRow base 3 1 w v l.length (l.flatMap ic ++ [.int .i64 (-77), .int .i64 (-77)])
theorem LentIn.ints {base : Nat} {w : World} {v : Value} {l : List Int} (h : LentIn base w v l) (hl : l.length ≤ 1073741824) : IntsIn w.heap.size w v l :=
  CopiedRow.slice ic (fun _ => rfl) (fun b o x _ hc => by have := hc 0 _ rfl; simpa [IntE] using this) h hl

set_option maxRecDepth 100000 in
theorem lent_any (n : Nat) (v : Value) (l : List Int) (w : World) (hs : IntsIn n w v l) (hn : n ≤ w.heap.size) :
    Calls Try.prog 11 #[v] w fun e w' => ∃ v', e = .returned v' ∧ Keep (fun k => k < w.heap.size) w w' ∧ LentIn w.heap.size w' v' l := by
  obtain ⟨a, c, rfl, hl, hc, he⟩ := id hs
  have hcl := slice_cells (sz := 1) ic (fun _ => rfl) (by omega) (E := IntE) (fun b o x h j u hj => by
    have hj0 : j = 0 := by have := (List.getElem?_eq_some_iff.1 hj).1; simp [ic] at this; exact this
    subst hj0
    simp [ic] at hj
    subst hj
    exact h) hs rfl
  obtain ⟨v1, W1, g, cap, W2, hr1, hr2, ho, hk, z1⟩ := copy_row (P := Try.prog) el_int 23 w a l.length c (l.flatMap ic) [.int .i64 (-77), .int .i64 (-77)] (flatMap_len _ 1 (fun _ => rfl) _) hcl.1 hcl.2 (flat_one _ (by simp [ic, Value.oneCell']) _) hl rfl (by simp [Value.oneCell'])
  have hcp := own_cap ho
  have hcap : (l.length : Int) ≤ cap := by omega
  clear he hcl
  have Xhs := Lib.hid hs
  have Xhr1 := Lib.hid hr1
  have Xhr2 := Lib.hid hr2
  have Xho := Lib.hid ho
  have Xhk := Lib.hid hk
  clear hs hr1 hr2 ho hk
  go_enter Try.func11, Try.ntmps11
  go_wp2_with (at_builtin; first | refine go_app rfl _ _ _ rfl rfl rfl Xhr1.out ?_ | refine go_app rfl _ _ _ rfl rfl rfl Xhr2.out ?_)
  go_ret
  exact ⟨_, rfl, Xhk.out, g, cap, rfl, Xho.out⟩

set_option maxRecDepth 100000 in
theorem left_any (n base : Nat) (v v' : Value) (l : List Int) (w : World) (ha : LentIn base w v l) (hs : IntsIn n w v' l) (hn : n ≤ w.heap.size) (hl : l.length ≤ 1073741824) :
    Calls Try.prog 37 #[v, v'] w fun e w' => e = .returned (.bool true) ∧ Keep (fun _ => True) w w' := by
  have hi := ha.ints hl
  obtain ⟨g, cap, rfl, ho⟩ := id ha
  obtain ⟨a, c, rfl, hl, hc, he⟩ := id hs
  have hcp := own_cap ho
  have e0 : w.cell? ⟨g, l.length, none⟩ = some (.int .i64 (-77)) := by
    refine own_elem ho l.length _ ?_
    rw [List.getElem?_append_right (by rw [flatMap_len ic 1 (fun _ => rfl)]; omega), flatMap_len ic 1 (fun _ => rfl), Nat.mul_one, Nat.sub_self]
    rfl
  have e1 : w.cell? ⟨g, l.length + 1, none⟩ = some (.int .i64 (-77)) := by
    refine own_elem ho (l.length + 1) _ ?_
    rw [List.getElem?_append_right (by rw [flatMap_len ic 1 (fun _ => rfl)]; omega), flatMap_len ic 1 (fun _ => rfl), Nat.mul_one, show l.length + 1 - l.length = 1 from by omega]
    rfl
  have hcap : (l.length : Int) + 2 ≤ cap := by omega
  have hg : g < w.heap.size := hcp.2.2.1
  clear he
  have Xha := Lib.hid ha
  have Xhs := Lib.hid hs
  have Xhi := Lib.hid hi
  have Xho := Lib.hid ho
  clear ha hs hi ho
  go_enter Try.func37, Try.ntmps37
  go_wp2_with fail
  refine (sameL_any w.heap.size _ _ l l w Xhi.out (ints_wider Xhs.out hn) (Nat.le_refl _)).mono ?_
  rintro e W1 ⟨rfl, k1⟩
  rw [decide_eq_true (Eq.refl l)]
  have f0 := k1.cell e0 trivial
  have f1 := k1.cell e1 trivial
  have hgw : g < W1.heap.size := by have := k1.size; omega
  clear e0 e1
  have Xk1 := Lib.hid k1
  clear k1
  go_wp2_with fail
  go_ret
  exact ⟨rfl, Xk1.out⟩

theorem num_any (k : Int) (w : World) : Calls Try.prog 17 #[.int .i64 k] w fun e w' => e = .returned (.int .i64 k) ∧ w' = w := by
  go_enter Try.func17, Try.ntmps17
  go_wp2
  go_ret
  exact ⟨rfl, rfl⟩
end Go.Proofs
