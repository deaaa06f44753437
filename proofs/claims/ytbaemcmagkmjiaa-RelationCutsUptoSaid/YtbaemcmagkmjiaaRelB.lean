/- Layer 4, the reference's relation: Len, tuple, Place, keyed. -/
import Derived.Test.YtbaemcmagkmjiaaProg
import Derived.Test.YtbaemcmagkmjiaaRelA
namespace Go.Proofs
open Go.RowKit Go.Ink
set_option linter.unusedVariables false
set_option linter.unusedSimpArgs false
attribute [local go_sem] Oper.semAt_some

/-- a list of numbers in one cell -/
def ListE (n : Nat) (w : World) (b o : Nat) (t : List Int) : Prop := ∃ sv, w.cell? ⟨b, o, none⟩ = some sv ∧ IntsIn n w sv t
abbrev ListsIn (n : Nat) (w : World) (v : Value) (ts : List (List Int)) : Prop := SliceIn n w 1 (ListE n) v ts
theorem lists_keep {n : Nat} {w w' : World} {v : Value} {ts : List (List Int)} (h : ListsIn n w v ts) {m : Nat} (hK : Keep (fun k => k < m) w w') (hm : n ≤ m) : ListsIn n w' v ts :=
  h.mono fun _ _ _ hb ⟨sv, h1, h2⟩ => ⟨sv, hK.cell h1 (Nat.lt_of_lt_of_le hb hm), ints_stay h2 hK hm⟩
theorem lists_wider {n n' : Nat} {w : World} {v : Value} {ts : List (List Int)} (h : ListsIn n w v ts) (hn : n ≤ n') : ListsIn n' w v ts :=
  SliceIn.wider h hn fun _ _ _ _ ⟨sv, h1, h2⟩ => ⟨sv, h1, ints_wider h2 hn⟩

/-- the reference's relation, as it is read -/
structure RefAt (w : World) (B n0 : Nat) (n : Nat) (ts : List (List Int)) (vL : Value) : Prop where
  box : w.heap[B]? = some (.cells #[.int .i64 (n : Int), vL] 38 (0, 0))
  l : ListsIn n0 w vL ts
  lw : n0 ≤ w.heap.size
theorem RefAt.keep {w w' : World} {B n0 n : Nat} {ts : List (List Int)} {vL : Value} (h : RefAt w B n0 n ts vL) {m : Nat} (hK : Keep (fun k => k < m) w w') (hm : n0 ≤ m) (hB : B < m) : RefAt w' B n0 n ts vL :=
  ⟨hK.heap h.box hB, lists_keep h.l hK hm, Nat.le_trans h.lw hK.size⟩

set_option maxRecDepth 100000 in
theorem refLen_nil (w : World) : Calls Try.prog 8 #[.pointer none] w fun e w' => e = .returned (.int .i64 0) ∧ w' = w := by
  go_enter Try.func8, Try.ntmps8
  go_wp2
  go_ret
  exact ⟨rfl, rfl⟩
set_option maxRecDepth 100000 in
theorem refLen_any {w : World} {B n0 n : Nat} {ts : List (List Int)} {vL : Value} (h : RefAt w B n0 n ts vL) : Calls Try.prog 8 #[.pointer (some ⟨B, 0, none⟩)] w fun e w' => e = .returned (.int .i64 ts.length) ∧ w' = w := by
  obtain ⟨a, c, rfl, hl, hc, he⟩ := id h.l
  have c1 := cells_of_block h.box 1 _ rfl
  have hB := heap_lt h.box
  simp only [Nat.zero_add] at c1
  clear he
  have Xh := Lib.hid h
  clear h
  go_enter Try.func8, Try.ntmps8
  go_wp2
  go_ret
  exact ⟨rfl, rfl⟩

/-- is it a tuple of a relation of n columns? -/
def rightD (n : Nat) (t : List Int) : Bool := decide (t.length = n) && t.all fun x => decide (0 ≤ x)
set_option maxRecDepth 100000 in
theorem refTuple_any {w : World} {B n0 n : Nat} {ts : List (List Int)} {vL : Value} (h : RefAt w B n0 n ts vL) (m : Nat) (v : Value) (t : List Int) (hs : IntsIn m w v t) (hm : m ≤ w.heap.size) :
    Calls Try.prog 50 #[.pointer (some ⟨B, 0, none⟩), v] w fun e w' => e = .returned (.bool (rightD n t)) ∧ Keep (fun _ => True) w w' := by
  obtain ⟨a, c, rfl, hl, hc, he⟩ := id hs
  have c0 := cells_of_block h.box 0 _ rfl
  have hB := heap_lt h.box
  simp only [Nat.zero_add] at c0
  have Xh := Lib.hid h
  have Xhs := Lib.hid hs
  have Xhe := Lib.hid he
  clear h hs he
  go_enter Try.func50, Try.ntmps50
  by_cases hlen : t.length = n
  · have hl1 : ((t.length : Int) != n) = false := by simp [hlen]
    have hans : rightD n t = t.all fun x => decide (0 ≤ x) := by simp [rightD, hlen]
    have Xhlen := Lib.hid hlen
    have Xhans := Lib.hid hans
    clear hlen hans
    go_wp2_with fail
    go_loopw [5] (fun i wr => ∃ k : Nat, k ≤ t.length ∧ i = .int .i64 k ∧ Keep (fun _ => True) w wr ∧ (t.take k).all (fun x => decide (0 ≤ x)) = true) (fun i _ => t.length - (intOf i).toNat)
    case atStart => exact ⟨0, by omega, rfl, Keep.refl _ _, rfl⟩
    case round =>
      obtain ⟨k, hk, rfl, hK, hall⟩ := hrel
      have hszk := hK.size
      by_cases hlt : k < t.length
      · obtain ⟨x, hx⟩ : ∃ x, t[k]? = some x := ⟨_, List.getElem?_eq_getElem hlt⟩
        obtain ⟨b, o, rfl, hb, hxa⟩ := Xhe.out k x hx
        have hxa := hK.cell hxa trivial
        simp only [Nat.mul_one] at hxa
        have hb1 : b < wr.heap.size := by omega
        have hlt1 : (k : Int) < t.length := by omega
        have hk0 : (0 : Int) ≤ k := by omega
        by_cases hneg : x < 0
        · have hno : (t.all fun x => decide (0 ≤ x)) = false := by
            rw [Bool.eq_false_iff]
            intro h
            have := List.all_eq_true.1 h x (List.mem_of_getElem? hx)
            simp at this
            omega
          clear hall hx
          have Xhno := Lib.hid hno
          have XhK := Lib.hid hK
          clear hno hK
          go_wp2_with fail
          go_ret
          exact ⟨by rw [Xhans.out, Xhno.out]; try rfl, XhK.out⟩
        · have hall2 : (t.take (k + 1)).all (fun x => decide (0 ≤ x)) = true := by
            rw [List.take_add_one, hx, List.all_append, hall]
            simp; omega
          clear hall hx
          have Xhall2 := Lib.hid hall2
          have XhK := Lib.hid hK
          clear hall2 hK
          go_wp2_with fail
          go_roundw
          case rel => exact ⟨k + 1, by omega, by go_num, XhK.out, Xhall2.out⟩
          case measure => simp [intOf]; omega
      · obtain rfl : k = t.length := by omega
        rw [List.take_length] at hall
        have Xhall := Lib.hid hall
        have XhK := Lib.hid hK
        clear hall hK
        go_wp2_with fail
        go_ret
        exact ⟨by rw [Xhans.out, Xhall.out]; try rfl, XhK.out⟩
  · have hl1 : ((t.length : Int) != n) = true := by simp; omega
    have hans : rightD n t = false := by simp [rightD, hlen]
    clear hlen
    have Xhans := Lib.hid hans
    clear hans
    go_wp2_with fail
    go_ret
    exact ⟨by rw [Xhans.out]; try rfl, Keep.refl _ _⟩
end Go.Proofs
