/- Layer 4, the reference's relation: row. -/
import Derived.Test.YtbaemcmagkmjiaaProg
import Derived.Test.YtbaemcmagkmjiaaRelC
namespace Go.Proofs
open Go.RowKit Go.Ink
set_option linter.unusedVariables false
set_option linter.unusedSimpArgs false
attribute [local go_sem] Oper.semAt_some

/-- are they a row of columns? -/
def okAt (n : Nat) (cols : List Int) (i : Nat) : Bool := decide (0 ≤ cols.getD i 0) && decide (cols.getD i 0 < n) && (i == 0 || decide (cols.getD (i - 1) 0 < cols.getD i 0))
def rowD (n : Nat) (cols : List Int) : Bool := (List.range cols.length).all (okAt n cols)
theorem rowD_at {n : Nat} {cols : List Int} (h : rowD n cols = true) : ∀ c, c ∈ cols → 0 ≤ c ∧ c < n := fun c hc => by
  obtain ⟨i, hi⟩ := List.mem_iff_getElem?.1 hc
  have := List.all_eq_true.1 h i (List.mem_range.2 (List.getElem?_eq_some_iff.1 hi).1)
  simp only [okAt, List.getD, hi, Option.getD_some, Bool.and_eq_true, decide_eq_true_eq] at this
  exact this.1

set_option maxRecDepth 100000 in
set_option maxHeartbeats 1000000 in
theorem refRow_any {w : World} {B n0 n : Nat} {ts : List (List Int)} {vL : Value} (h : RefAt w B n0 n ts vL) (m : Nat) (v : Value) (cols : List Int) (hs : IntsIn m w v cols) (hm : m ≤ w.heap.size) :
    Calls Try.prog 30 #[.pointer (some ⟨B, 0, none⟩), v] w fun e w' => e = .returned (.bool (rowD n cols)) ∧ Keep (fun _ => True) w w' := by
  obtain ⟨a, c, rfl, hl, hc, he⟩ := id hs
  have hB := heap_lt h.box
  have Xh := Lib.hid h
  have Xhs := Lib.hid hs
  have Xhe := Lib.hid he
  clear h hs he
  go_enter Try.func30, Try.ntmps30
  go_wp2_with fail
  go_loopw [5] (fun i wr => ∃ k : Nat, k ≤ cols.length ∧ i = .int .i64 k ∧ Keep (fun _ => True) w wr ∧ ∀ j, j < k → okAt n cols j = true) (fun i _ => cols.length - (intOf i).toNat)
  case atStart => exact ⟨0, by omega, rfl, Keep.refl _ _, fun j hj => by omega⟩
  case round =>
    obtain ⟨k, hk, rfl, hK, hall⟩ := hrel
    have hszk := hK.size
    have hbox := hK.heap Xh.out.box trivial
    have c0 := cells_of_block hbox 0 _ rfl
    simp only [Nat.zero_add] at c0
    have hBr : B < wr.heap.size := by omega
    clear hbox
    by_cases hlt : k < cols.length
    · obtain ⟨x, hx⟩ : ∃ x, cols[k]? = some x := ⟨_, List.getElem?_eq_getElem hlt⟩
      obtain ⟨b, o, rfl, hb, hxa⟩ := Xhe.out k x hx
      have f1 := hK.cell hxa trivial
      simp only [Nat.mul_one] at f1
      have hb1 : b < wr.heap.size := by omega
      have hlt1 : (k : Int) < cols.length := by omega
      have hk0 : (0 : Int) ≤ k := by omega
      have hxd : cols.getD k 0 = x := by simp [List.getD, hx]
      have hbad : okAt n cols k = false → rowD n cols = false := fun h => by
        rw [Bool.eq_false_iff]
        intro h'
        rw [List.all_eq_true.1 h' k (List.mem_range.2 hlt)] at h
        cases h
      have hgood : okAt n cols k = true → ∀ j, j < k + 1 → okAt n cols j = true := fun h j hj => by
        rcases Nat.lt_succ_iff_lt_or_eq.1 hj with h' | rfl
        · exact hall j h'
        · exact h
      clear hall hxa
      by_cases hneg : x < 0
      · have hno := hbad (by unfold okAt; rw [hxd]; simp; omega)
        have hd1 : decide (x < 0) = true := by simpa using hneg
        clear hbad hgood hxd hx hneg
        have Xhno := Lib.hid hno
        have XhK := Lib.hid hK
        clear hno hK
        go_wp2_with fail
        go_quiet (fail)
        go_wp2_with fail
        go_ret
        exact ⟨by rw [Xhno.out]; try rfl, XhK.out.trans (Keep.drewN' _ _ _)⟩
      · have hd1 : decide (x < 0) = false := by simpa using hneg
        by_cases hbig : (n : Int) ≤ x
        · have hno := hbad (by unfold okAt; rw [hxd]; simp; omega)
          have hd2 : decide ((n : Int) ≤ x) = true := by simpa using hbig
          clear hbad hgood hxd hx hneg hbig
          have Xhno := Lib.hid hno
          have XhK := Lib.hid hK
          clear hno hK
          go_wp2_with fail
          go_quiet (fail)
          go_wp2_with fail
          go_ret
          exact ⟨by rw [Xhno.out]; try rfl, XhK.out.trans (Keep.drewN' _ _ _)⟩
        · have hd2 : decide ((n : Int) ≤ x) = false := by simpa using hbig
          cases k with
          | zero =>
            simp only [Nat.add_zero] at f1
            have hy := hgood (by unfold okAt; rw [hxd]; simp; omega)
            clear hbad hgood hxd hx hneg hbig
            have Xhy := Lib.hid hy
            have XhK := Lib.hid hK
            clear hy hK
            go_wp2_with fail
            go_quiet (fail)
            go_wp2_with fail
            go_roundw
            case rel => exact ⟨0 + 1, by omega, by go_num, XhK.out.trans (Keep.drewN' _ _ _), Xhy.out⟩
            case measure => simp [intOf]; omega
          | succ k =>
            obtain ⟨y, hy⟩ : ∃ y, cols[k]? = some y := ⟨_, List.getElem?_eq_getElem (by omega)⟩
            obtain ⟨b', o', hbo, hb', hya⟩ := Xhe.out k y hy
            cases hbo
            have f2 := hK.cell hya trivial
            simp only [Nat.mul_one] at f2
            have hyd : cols.getD (k + 1 - 1) 0 = y := by simp [List.getD, hy]
            have hd3 : decide ((0 : Int) < ((k + 1 : Nat) : Int)) = true := by
              rw [decide_eq_true_eq]; omega
            clear hya
            by_cases hle : x ≤ y
            · have hno := hbad (by unfold okAt; rw [hxd, hyd]; simp; omega)
              have hd4 : decide (x ≤ y) = true := by simpa using hle
              clear hbad hgood hxd hyd hx hy hneg hbig hle
              have Xhno := Lib.hid hno
              have XhK := Lib.hid hK
              clear hno hK
              go_wp2_with fail
              go_quiet (fail)
              go_wp2_with fail
              go_ret
              exact ⟨by rw [Xhno.out]; try rfl, XhK.out.trans (Keep.drewN' _ _ _)⟩
            · have hok := hgood (by unfold okAt; rw [hxd, hyd]; simp; omega)
              have hd4 : decide (x ≤ y) = false := by simpa using hle
              clear hbad hgood hxd hyd hx hy hneg hbig hle
              have Xhok := Lib.hid hok
              have XhK := Lib.hid hK
              clear hok hK
              go_wp2_with fail
              go_quiet (fail)
              go_wp2_with fail
              go_roundw
              case rel => exact ⟨k + 1 + 1, by omega, by go_num, XhK.out.trans (Keep.drewN' _ _ _), Xhok.out⟩
              case measure => simp [intOf]; omega
    · obtain rfl : k = cols.length := by omega
      have hyes : rowD n cols = true := List.all_eq_true.2 fun j hj => hall j (List.mem_range.1 hj)
      clear hall
      have Xhyes := Lib.hid hyes
      have XhK := Lib.hid hK
      clear hyes hK
      go_wp2_with fail
      go_ret
      exact ⟨by rw [Xhyes.out]; try rfl, XhK.out⟩
end Go.Proofs
