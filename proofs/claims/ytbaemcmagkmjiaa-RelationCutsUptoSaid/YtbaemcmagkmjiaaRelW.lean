/- Layer 4, the law: spoil. -/
import Derived.Test.YtbaemcmagkmjiaaProg
import Derived.Test.YtbaemcmagkmjiaaRelV
import Derived.Test.YtbaemcmagkmjiaaOwnC
namespace Go.Proofs
open Go.RowKit Go.Ink
set_option linter.unusedVariables false
set_option linter.unusedSimpArgs false
attribute [local go_sem] Oper.semAt_some

set_option maxRecDepth 100000 in
set_option maxHeartbeats 1000000 in
theorem spoil_any {w : World} {v : Value} {n : Nat} (h : LooseIn w 3 v n) (hn : n ≤ 1073741824) :
    Calls Try.prog 38 #[v] w fun e w' => e = .returned (.tuple #[]) ∧ Keep (fun b => v.ownBlock ≠ some b) w w' := by
  obtain ⟨a, c, rfl⟩ : ∃ a c, v = .slice a n c := by
    rcases h with ⟨h1, h2⟩ | ⟨g, c, cur, h1, _⟩
    · subst h2; exact ⟨_, _, h1⟩
    · exact ⟨_, _, h1⟩
  have Xh := Lib.hid h
  clear h
  go_enter Try.func38, Try.ntmps38
  go_wp2_with fail
  go_loopw [2] (fun i wr => ∃ k : Nat, k ≤ n ∧ i = .int .i64 (k : Int) ∧ LooseIn wr 3 (.slice a n c) n ∧ Keep (fun b => Value.ownBlock (.slice a n c) ≠ some b) w wr) (fun i _ => n - (intOf i).toNat)
  case atStart => exact ⟨0, by omega, rfl, Xh.out, Keep.refl _ _⟩
  case round =>
    obtain ⟨k, hk, rfl, hL, hK⟩ := hrel
    by_cases hlt : k < n
    · obtain ⟨g, cur, hag, hg, h1, h2, h3⟩ : ∃ g cur, a = some ⟨g, 0, none⟩ ∧ wr.heap[g]? = some (.cells cur 3 (0, 0)) ∧ n ≤ c ∧ c ≤ maxLen ∧ c ≤ cur.size := by
        rcases hL with ⟨h1, h2⟩ | ⟨g, c', cur, h1, h2, h3, h4, h5⟩
        · omega
        · injection h1 with q1 q2 q3
          subst q3
          exact ⟨g, cur, q1, h2, h3, h4, h5⟩
      subst hag
      obtain ⟨u0, hu0⟩ : ∃ u0, wr.cell? ⟨g, k, none⟩ = some u0 := by
        have := cells_of_block hg k _ (List.getElem?_eq_getElem (by rw [Array.length_toList]; omega))
        rw [Nat.zero_add] at this
        exact ⟨_, this⟩
      have hfr := box_free hg k
      have hgl := heap_lt hg
      have hL2 := hL.set k (.int .i64 (-9))
      have hK2 : Keep (fun b => Value.ownBlock (.slice (some ⟨g, 0, none⟩) n c) ≠ some b) w (wr.setCell ⟨g, k, none⟩ (.int .i64 (-9))) := hK.trans (Keep.setCell _ _ _ (by simp [Value.ownBlock]))
      have hlt1 : (k : Int) < n := by omega
      have hk0 : (0 : Int) ≤ k := by omega
      have hk1 : (k : Int) + 1 ≤ 1073741824 := by omega
      clear hg hL hK
      have XhL2 := Lib.hid hL2
      have XhK2 := Lib.hid hK2
      clear hL2 hK2
      go_wp2_with fail
      go_roundw
      case rel => exact ⟨k + 1, by omega, by go_num, XhL2.out, XhK2.out⟩
      case measure => simp [intOf]; omega
    · obtain rfl : k = n := by omega
      have XhL := Lib.hid hL
      have XhK := Lib.hid hK
      clear hL hK
      go_wp2_with fail
      go_loopw [3, 0] (fun i t wq => ∃ j : Nat, j ≤ 20 ∧ i = .int .i64 (j : Int) ∧ LooseIn wq 3 t (k + j) ∧ (∀ b, t.ownBlock = some b → Value.ownBlock (.slice a k c) = some b ∨ w.heap.size ≤ b) ∧ Keep (fun b => Value.ownBlock (.slice a k c) ≠ some b) w wq) (fun i _ _ => 20 - (intOf i).toNat)
      case atStart => exact ⟨0, by omega, rfl, XhL.out, fun b hb => .inl hb, XhK.out⟩
      case round =>
        obtain ⟨j, hj, rfl, hL, hb, hK⟩ := hrel
        by_cases hlt : j < 20
        · obtain ⟨W1, hW1⟩ : ∃ W1, wr.alloc (.cells #[.int .i64 (-9)] 3) = W1 := ⟨_, rfl⟩
          have k1 : Keep (fun _ => True) wr W1 := by rw [← hW1]; exact Keep.alloc _ _ _
          have n1 : W1.heap[wr.heap.size]? = some (.cells #[.int .i64 (-9)] 3 (0, 0)) := by rw [← hW1]; exact new_block _ _
          obtain ⟨v', W2, hr2, hL2, hb2, hk2⟩ := appL (P := Try.prog) el_int 23 (hL.keep k1 (fun _ _ => trivial)) ⟨wr.heap.size, 0, none⟩ 1 (.int .i64 (-9)) (box_cell n1) rfl rfl (by omega)
          have hzk := hK.size
          have hz1 := k1.size
          have hb3 : ∀ b, v'.ownBlock = some b → Value.ownBlock (.slice a k c) = some b ∨ w.heap.size ≤ b := fun b hb' => by
            rcases hb2 b hb' with h1 | h1
            · exact hb b h1
            · exact .inr (by omega)
          have hK2 : Keep (fun b => Value.ownBlock (.slice a k c) ≠ some b) w W2 := by
            have h0 : Keep (fun b => Value.ownBlock (.slice a k c) ≠ some b ∧ b < w.heap.size) w W2 := (hK.mono fun b _ h => h.1).trans ((k1.mono fun _ _ _ => trivial).trans (hk2.mono fun b _ h e => by
              rcases hb3 b e with h1 | h1
              · exact h.1 h1
              · have := h.2; omega))
            exact h0.mono fun b hb h => ⟨h, hb⟩
          have hlt1 : (j : Int) < 20 := by omega
          have hj0 : (0 : Int) ≤ j := by omega
          clear hb hb2 hK hL n1 k1 hk2
          have Xhr2 := Lib.hid hr2
          have XhL2 := Lib.hid hL2
          have Xhb3 := Lib.hid hb3
          have XhK2 := Lib.hid hK2
          clear hr2 hL2 hb3 hK2
          go_wp2_with (at_builtin; refine go_app (v := u0) (u := .slice (some ⟨wr.heap.size, 0, none⟩) 1 1) (v' := v') (w' := W2) rfl (.tmp 17) (.tmp 18) 23 rfl rfl rfl Xhr2.out ?_)
          go_roundw
          case rel => exact ⟨j + 1, by omega, by go_num, XhL2.out, Xhb3.out, XhK2.out⟩
          case measure => simp [intOf]; omega
        · obtain rfl : j = 20 := by omega
          have XhL := Lib.hid hL
          have Xhb := Lib.hid hb
          have XhK := Lib.hid hK
          clear hL hb hK
          go_wp2_with fail
          refine bodyPost_end (results_none rfl _ _ _) rfl ?_
          exact ⟨rfl, XhK.out⟩
end Go.Proofs
