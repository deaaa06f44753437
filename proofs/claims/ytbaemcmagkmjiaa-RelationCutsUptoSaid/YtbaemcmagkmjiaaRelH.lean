/- Layer 4, the program's relation: made, Len, right, New's box. -/
import Derived.Test.YtbaemcmagkmjiaaProg
import Derived.Test.YtbaemcmagkmjiaaRelB
import Derived.Test.YtbaemcmagkmjiaaMaps
import Derived.Laws.Cover3
namespace Go.Proofs
open Go.RowKit Go.Ink
set_option linter.unusedVariables false
set_option linter.unusedSimpArgs false
attribute [local go_sem] Oper.semAt_some

/-- the cells of a relation that is made -/
def relCells (n : Nat) (vD : Value) (c P K : Nat) : List Value := [.int .i64 (n : Int), vD, .int .i64 (c : Int), .map (some P), .map (some K)]

set_option maxRecDepth 100000 in
theorem made_nil (w : World) : Calls Try.prog 39 #[.pointer none] w fun e w' => e = .returned (.bool false) ∧ w' = w := by
  go_enter Try.func39, Try.ntmps39
  go_wp2
  go_ret
  exact ⟨rfl, rfl⟩
set_option maxRecDepth 100000 in
theorem made_any {w : World} {B n c P K : Nat} {vD : Value} (h : w.heap[B]? = some (.cells (relCells n vD c P K).toArray 79 (0, 0))) : Calls Try.prog 39 #[.pointer (some ⟨B, 0, none⟩)] w fun e w' => e = .returned (.bool true) ∧ w' = w := by
  have c3 := cells_of_block h 3 _ rfl
  have hB := heap_lt h
  simp only [Nat.zero_add] at c3
  clear h
  have hne : ∀ w', (binOp .neq 76 (.map (some P)) (.map none)).run Try.prog w' = .ok (.bool true) w' := fun w' => run_neq_map_nil w' _ _ _ (some P) Try.underlying76
  go_enter Try.func39, Try.ntmps39
  go_wp2
  go_ret
  exact ⟨rfl, rfl⟩
set_option maxRecDepth 100000 in
theorem relLen_nil (w : World) : Calls Try.prog 19 #[.pointer none] w fun e w' => e = .returned (.int .i64 0) ∧ w' = w := by
  go_enter Try.func19, Try.ntmps19
  go_wp2_with fail
  refine (made_nil w).mono ?_
  rintro e w1 ⟨rfl, rfl⟩
  go_wp2_with fail
  go_ret
  exact ⟨rfl, rfl⟩
set_option maxRecDepth 100000 in
theorem relLen_any {w : World} {B n c P K : Nat} {vD : Value} (h : w.heap[B]? = some (.cells (relCells n vD c P K).toArray 79 (0, 0))) : Calls Try.prog 19 #[.pointer (some ⟨B, 0, none⟩)] w fun e w' => e = .returned (.int .i64 c) ∧ w' = w := by
  have c2 := cells_of_block h 2 _ rfl
  have hB := heap_lt h
  simp only [Nat.zero_add] at c2
  have Xh := Lib.hid h
  clear h
  go_enter Try.func19, Try.ntmps19
  go_wp2_with fail
  refine (made_any Xh.out).mono ?_
  rintro e w1 ⟨rfl, rfl⟩
  go_wp2_with fail
  go_ret
  exact ⟨rfl, rfl⟩

set_option maxRecDepth 100000 in
theorem right_any {w : World} {B n c P K : Nat} {vD : Value} (h : w.heap[B]? = some (.cells (relCells n vD c P K).toArray 79 (0, 0))) (m : Nat) (v : Value) (t : List Int) (hs : IntsIn m w v t) (hm : m ≤ w.heap.size) :
    Calls Try.prog 40 #[.pointer (some ⟨B, 0, none⟩), v] w fun e w' => e = .returned (.bool (rightD n t)) ∧ Keep (fun _ => True) w w' := by
  obtain ⟨a, cc, rfl, hl, hc, he⟩ := id hs
  have hB := heap_lt h
  have Xh := Lib.hid h
  have Xhs := Lib.hid hs
  have Xhe := Lib.hid he
  clear h hs he
  go_enter Try.func40, Try.ntmps40
  go_wp2_with fail
  go_loopw [9] (fun i wr => ∃ k : Nat, k ≤ t.length ∧ i = .int .i64 k ∧ Keep (fun _ => True) w wr ∧ (t.take k).all (fun x => decide (0 ≤ x)) = true) (fun i _ => t.length - (intOf i).toNat)
  case atStart => exact ⟨0, by omega, rfl, Keep.refl _ _, rfl⟩
  case round =>
    obtain ⟨k, hk, rfl, hK, hall⟩ := hrel
    have hszk := hK.size
    by_cases hlt : k < t.length
    · obtain ⟨x, hx⟩ : ∃ x, t[k]? = some x := ⟨_, List.getElem?_eq_getElem hlt⟩
      obtain ⟨b, o, rfl, hb, hxa⟩ := Xhe.out k x hx
      have hxa := hK.cell hxa trivial
      simp only [Nat.mul_one] at hxa
      have hb1 : b < wr.heap.size := by omega
      have hlt1 : (k : Int) < t.length := by omega
      have hk0 : (0 : Int) ≤ k := by omega
      by_cases hneg : x < 0
      · have hno : rightD n t = false := by
          rw [Bool.eq_false_iff]
          intro h
          simp only [rightD, Bool.and_eq_true, List.all_eq_true, decide_eq_true_eq] at h
          have := h.2 x (List.mem_of_getElem? hx)
          omega
        clear hall hx
        have Xhno := Lib.hid hno
        have XhK := Lib.hid hK
        clear hno hK
        go_wp2_with fail
        go_ret
        exact ⟨by rw [Xhno.out]; try rfl, XhK.out⟩
      · have hall2 : (t.take (k + 1)).all (fun x => decide (0 ≤ x)) = true := by
          rw [List.take_add_one, hx, List.all_append, hall]
          simp; omega
        clear hall hx
        have Xhall2 := Lib.hid hall2
        have XhK := Lib.hid hK
        clear hall2 hK
        go_wp2_with fail
        go_roundw
        case rel => exact ⟨k + 1, by omega, by go_num, XhK.out, Xhall2.out⟩
        case measure => simp [intOf]; omega
    · obtain rfl : k = t.length := by omega
      rw [List.take_length] at hall
      have hbox := hK.heap Xh.out trivial
      have c0 := cells_of_block hbox 0 _ rfl
      have hBr : B < wr.heap.size := by omega
      simp only [Nat.zero_add] at c0
      clear hbox
      by_cases hlen : t.length = n
      · have hans : rightD n t = true := by simp only [rightD, hall, hlen]; simp
        have hl1 : ((t.length : Int) == n) = true := by simp [hlen]
        clear hall hlen
        have Xhans := Lib.hid hans
        have XhK := Lib.hid hK
        clear hans hK
        go_wp2_with fail
        go_ret
        exact ⟨by rw [Xhans.out]; try rfl, XhK.out⟩
      · have hans : rightD n t = false := by simp [rightD, hlen]
        have hl1 : ((t.length : Int) == n) = false := by rw [beq_eq_false_iff_ne]; omega
        clear hall hlen
        have Xhans := Lib.hid hans
        have XhK := Lib.hid hK
        clear hans hK
        go_wp2_with fail
        go_ret
        exact ⟨by rw [Xhans.out]; try rfl, XhK.out⟩
end Go.Proofs
