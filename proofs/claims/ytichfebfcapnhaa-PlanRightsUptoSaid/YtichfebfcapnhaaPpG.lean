/- Layer 16 (plan): the document's SameSteps: are two lists of steps the same. -/
import Derived.Test.YtichfebfcapnhaaProg
import Derived.Test.YtichfebfcapnhaaPnX
import Derived.Test.YtichfebfcapnhaaPpGq
import Derived.BigQuiet
namespace Go.Proofs
open Go.RowKit Go.Ink
set_option linter.unusedVariables false
set_option linter.unusedSimpArgs false
attribute [local go_sem] Oper.semAt_some

set_option maxRecDepth 100000 in
set_option maxHeartbeats 2000000 in
theorem refSameSteps_any (n : Nat) (va vb : Value) (xs ys : List StepD) (w : World) (ha : StepsIn n w va xs) (hb : StepsIn n w vb ys) (hn : n ≤ w.heap.size) :
    Calls Try.prog 47 #[va, vb] w fun e w' => e = .returned (.bool (decide (xs = ys))) ∧ Keep (fun _ => True) w w' := by
  obtain ⟨aa, ca, rfl, hla, hca, hea⟩ := id ha
  obtain ⟨ab, cb, rfl, hlb, hcb, heb⟩ := id hb
  have Xhea := Lib.hid hea
  have Xheb := Lib.hid heb
  have Xha := Lib.hid ha
  have Xhb := Lib.hid hb
  clear hea heb ha hb
  go_enter Try.func47, Try.ntmps47
  by_cases hl : xs.length = ys.length
  · have hl1 : ((xs.length : Int) != ys.length) = false := by simp [hl]
    have Xhl := Lib.hid hl
    clear hl
    go_wp2_with fail
    go_loopw [5] (fun i' wr => ∃ k : Nat, k ≤ xs.length ∧ i' = .int .i64 (k : Int) ∧ Keep (fun _ => True) w wr ∧ ∀ j, j < k → xs[j]? = ys[j]?) (fun i _ => xs.length - (intOf i).toNat)
    case atStart => exact ⟨0, by omega, rfl, Keep.refl _ _, fun j h => by omega⟩
    case round =>
      obtain ⟨k, hk, rfl, hK, hall⟩ := hrel
      have hsz := hK.size
      by_cases hlt : k < xs.length
      · have hlt1 : (k : Int) < xs.length := by omega
        have hlt2 : (k : Int) < ys.length := by have := Xhl.out; omega
        have hk0 : (0 : Int) ≤ k := by omega
        obtain ⟨x, hx⟩ : ∃ x, xs[k]? = some x := ⟨_, List.getElem?_eq_getElem hlt⟩
        obtain ⟨y, hy⟩ : ∃ y, ys[k]? = some y := ⟨_, List.getElem?_eq_getElem (by omega)⟩
        obtain ⟨b4, o4, rfl, hb4, dv, fv, hc4, hd4, hf4⟩ := Xhea.out k x hx
        obtain ⟨b5, o5, rfl, hb5, ev, gv, hc5, hd5, hf5⟩ := Xheb.out k y hy
        have a0 := hK.cell (hc4 0 _ rfl) trivial
        have a1 := hK.cell (hc4 1 _ rfl) trivial
        have a2 := hK.cell (hc4 2 _ rfl) trivial
        have e0 := hK.cell (hc5 0 _ rfl) trivial
        have e1 := hK.cell (hc5 1 _ rfl) trivial
        have e2 := hK.cell (hc5 2 _ rfl) trivial
        simp only [Nat.add_zero] at a0 e0
        have hb4w : b4 < wr.heap.size := by omega
        have hb5w : b5 < wr.heap.size := by omega
        have hsi := fun q => refSameInts_q n dv ev x.bound y.bound (wr.drewN q) (ints_kept hd4 ((hK.trans (Keep.drewN' _ _ _)).mono fun _ _ _ => trivial)) (ints_kept hd5 ((hK.trans (Keep.drewN' _ _ _)).mono fun _ _ _ => trivial)) (by simp; omega)
        have hst := fun q => refSameTexts_q n fv gv x.new y.new (wr.drewN q) (strs_kept hf4 ((hK.trans (Keep.drewN' _ _ _)).mono fun _ _ _ => trivial)) (strs_kept hf5 ((hK.trans (Keep.drewN' _ _ _)).mono fun _ _ _ => trivial)) (by simp; omega)
        obtain ⟨ad, cd, rfl, -, -, -⟩ := id hd4
        obtain ⟨ae, ce, rfl, -, -, -⟩ := id hd5
        obtain ⟨af, cf, rfl, -, -, -⟩ := id hf4
        obtain ⟨ag, cg, rfl, -, -, -⟩ := id hf5
        obtain ⟨xl, xb, xn⟩ := x
        obtain ⟨yl, yb, yn⟩ := y
        simp only at a0 a1 a2 e0 e1 e2 hsi hst
        have hno : ∀ (h : ¬(⟨xl, xb, xn⟩ : StepD) = ⟨yl, yb, yn⟩), decide (xs = ys) = false := fun h => by
          simp only [decide_eq_false_iff_not]
          intro e; subst e; rw [hx] at hy; cases hy; exact h rfl
        have hyes : (⟨xl, xb, xn⟩ : StepD) = ⟨yl, yb, yn⟩ → ∀ j, j < k + 1 → xs[j]? = ys[j]? := fun h j hj => by
          rcases Nat.lt_succ_iff_lt_or_eq.1 hj with h2 | rfl
          · exact hall j h2
          · rw [hx, hy, h]
        clear hall hx hy hc4 hc5 hd4 hd5 hf4 hf5 hl1
        have Xhno := Lib.hid hno
        have Xhyes := Lib.hid hyes
        clear hno hyes
        by_cases h1 : xl = yl
        · have hne : (xl != yl) = false := by simp [h1]
          obtain ⟨c1b, hc1b⟩ : ∃ b, decide (xb = yb) = b := ⟨_, rfl⟩
          obtain ⟨c2b, hc2b⟩ : ∃ b, decide (xn = yn) = b := ⟨_, rfl⟩
          simp only [hc1b] at hsi
          simp only [hc2b] at hst
          cases c1b
          · have hF := Xhno.out (fun h => by cases h; simp at hc1b)
            clear h1 hc1b hc2b
            have XhF := Lib.hid hF
            have XhK := Lib.hid hK
            have Xhsi := Lib.hid hsi
            have Xhst := Lib.hid hst
            clear hF hK hsi hst
            go_wp2_with fail
            go_quiet ((first | (go_at_call 35; exact Calls.quiet_of (Xhsi.out _)) | (go_at_call 78; exact Calls.quiet_of (Xhst.out _))))
            go_wp2_with fail
            go_ret
            exact ⟨by rw [XhF.out]; try rfl, XhK.out.trans (Keep.drewN' _ _ _)⟩
          · cases c2b
            · have hF := Xhno.out (fun h => by cases h; simp at hc2b)
              clear h1 hc1b hc2b
              have XhF := Lib.hid hF
              have XhK := Lib.hid hK
              have Xhsi := Lib.hid hsi
              have Xhst := Lib.hid hst
              clear hF hK hsi hst
              go_wp2_with fail
              go_quiet ((first | (go_at_call 35; exact Calls.quiet_of (Xhsi.out _)) | (go_at_call 78; exact Calls.quiet_of (Xhst.out _))))
              go_wp2_with fail
              go_ret
              exact ⟨by rw [XhF.out]; try rfl, XhK.out.trans (Keep.drewN' _ _ _)⟩
            · have hY := Xhyes.out (by rw [h1, of_decide_eq_true hc1b, of_decide_eq_true hc2b])
              clear h1 hc1b hc2b
              have XhY := Lib.hid hY
              have XhK := Lib.hid hK
              have Xhsi := Lib.hid hsi
              have Xhst := Lib.hid hst
              clear hY hK hsi hst
              go_wp2_with fail
              go_quiet ((first | (go_at_call 35; exact Calls.quiet_of (Xhsi.out _)) | (go_at_call 78; exact Calls.quiet_of (Xhst.out _))))
              go_wp2_with fail
              go_roundw
              case rel => exact ⟨k + 1, by omega, by go_num, XhK.out.trans (Keep.drewN' _ _ _), XhY.out⟩
              case measure => simp [intOf]; omega
        · have hne : (xl != yl) = true := by simp [h1]
          have hF := Xhno.out (fun h => by cases h; exact h1 rfl)
          clear h1 hsi hst
          have XhF := Lib.hid hF
          have XhK := Lib.hid hK
          clear hF hK
          go_wp2_with fail
          go_quiet (fail)
          go_wp2_with fail
          go_ret
          exact ⟨by rw [XhF.out]; try rfl, XhK.out.trans (Keep.drewN' _ _ _)⟩
      · have hyes : decide (xs = ys) = true := by
          simp only [decide_eq_true_eq]
          exact eq_at Xhl.out fun j hj => hall j (by omega)
        clear hall
        have Xhyes := Lib.hid hyes
        have XhK := Lib.hid hK
        clear hyes hK
        go_wp2_with fail
        go_ret
        exact ⟨by rw [Xhyes.out]; try rfl, XhK.out⟩
  · have hl1 : ((xs.length : Int) != ys.length) = true := by simp; omega
    have hno : decide (xs = ys) = false := by
      simp only [decide_eq_false_iff_not]
      intro e; exact hl (by rw [e])
    clear hl
    have Xhno := Lib.hid hno
    clear hno
    go_wp2_with fail
    go_ret
    exact ⟨by rw [Xhno.out]; try rfl, Keep.refl _ _⟩
end Go.Proofs
