/- Layer 4, the reference's relation as its own memory: New, Add. -/
import Derived.Test.YtbaemcmagkmjiaaProg
import Derived.Test.YtbaemcmagkmjiaaRelC
import Derived.Test.YtbaemcmagkmjiaaHoist
namespace Go.Proofs
open Go.RowKit Go.Ink
set_option linter.unusedVariables false
set_option linter.unusedSimpArgs false
attribute [local go_sem] Oper.semAt_some

/-- the elements of the reference's list: each a slice of its own numbers, in blocks of the footprint that the list's own row is not -/
def RowsIn (F : Nat → Prop) (w : World) (B : Nat) (vL : Value) (ts : List (List Int)) (svs : List Value) : Prop :=
  svs.length = ts.length ∧ ∀ (j : Nat) (t : List Int), ts[j]? = some t → ∃ a c, svs[j]? = some (.slice a t.length c) ∧ t.length ≤ 1073741824 ∧ (t.length ≤ c ∧ c ≤ maxLen) ∧
    ∀ (k : Nat) (x : Int), t[k]? = some x → ∃ b o, a = some ⟨b, o, none⟩ ∧ F b ∧ b ≠ B ∧ vL.ownBlock ≠ some b ∧ b < w.heap.size ∧ w.cell? ⟨b, o + k, none⟩ = some (.int .i64 x)
theorem RowsIn.keep {F : Nat → Prop} {w w' : World} {B : Nat} {vL : Value} {ts : List (List Int)} {svs : List Value} {C : Nat → Prop} (h : RowsIn F w B vL ts svs) (hK : Keep C w w') (hC : ∀ b, F b → b < w.heap.size → b ≠ B → vL.ownBlock ≠ some b → C b) : RowsIn F w' B vL ts svs := by
  refine ⟨h.1, fun j t ht => ?_⟩
  obtain ⟨a, c, h1, h2, h3, h4⟩ := h.2 j t ht
  refine ⟨a, c, h1, h2, h3, fun k x hk => ?_⟩
  obtain ⟨b, o, e1, e2, e3, e4, e5, e6⟩ := h4 k x hk
  exact ⟨b, o, e1, e2, e3, e4, Nat.lt_of_lt_of_le e5 hK.size, hK.cell e6 (hC b e2 e5 e3 e4)⟩

/-- the reference's relation in memory of its own -/
structure RefOwn (F : Nat → Prop) (w : World) (B n : Nat) (ts : List (List Int)) (vL : Value) (svs : List Value) : Prop where
  box : w.heap[B]? = some (.cells #[.int .i64 (n : Int), vL] 38 (0, 0))
  own : w.ownsRow (B + 1) 23 1 vL ts.length svs
  fl : ∀ b, vL.ownBlock = some b → F b
  fb : F B
  rows : RowsIn F w B vL ts svs
theorem RefOwn.keep {F : Nat → Prop} {w w' : World} {B n : Nat} {ts : List (List Int)} {vL : Value} {svs : List Value} {C : Nat → Prop} (h : RefOwn F w B n ts vL svs) (hK : Keep C w w') (hC : ∀ b, F b → b < w.heap.size → C b) : RefOwn F w' B n ts vL svs :=
  ⟨hK.heap h.box (hC _ h.fb (heap_lt h.box)), own_kept h.own hK (fun b hb => hC b (h.fl b hb) (World.ownsRow.lt h.own b hb).2), h.fl, h.fb, h.rows.keep hK (fun b hb hl _ _ => hC b hb hl)⟩
theorem RefOwn.lists {F : Nat → Prop} {w : World} {B n : Nat} {ts : List (List Int)} {vL : Value} {svs : List Value} (h : RefOwn F w B n ts vL svs) (hl : ts.length ≤ 1073741824) : RefAt w B w.heap.size n ts vL := by
  refine ⟨h.box, ?_, Nat.le_refl _⟩
  rcases h.own.2 with ⟨e1, e2⟩ | ⟨g, cap, cur, e1, e2, e3, e4, e5, _⟩
  · have : ts = [] := List.eq_nil_of_length_eq_zero e2
    subst this
    rw [e1]
    exact ⟨none, 0, rfl, by simp, by simp [maxLen], by simp⟩
  · subst e1
    refine ⟨_, cap, rfl, hl, ⟨e4, e5⟩, fun k t ht => ?_⟩
    obtain ⟨a, c, h1, h2, h3, h4⟩ := h.rows.2 k t ht
    refine ⟨g, 0, rfl, heap_lt e3, .slice a t.length c, ?_, a, c, rfl, h2, h3, fun j x hj => ?_⟩
    · have := own_elem h.own k _ h1
      simpa using this
    · obtain ⟨b, o, q1, _, _, _, q5, q6⟩ := h4 j x hj
      exact ⟨b, o, q1, q5, by simpa [IntE] using q6⟩

theorem el_list : ElemOf Try.prog 22 23 1 24 := elem_of (z := .slice none 0 0) (by kernel_rfl) (by kernel_rfl) rfl (by decide) (by decide)

set_option maxRecDepth 100000 in
theorem refNew_any (n : Nat) (hn : n ≤ 16) (w : World) : Calls Try.prog 24 #[.int .i64 n] w fun e w' => e = .returned (.tuple #[.pointer (some ⟨w.heap.size, 0, none⟩), .int .i64 0]) ∧ Keep (fun _ => True) w w' ∧ w'.heap.size = w.heap.size + 1 ∧
    RefOwn (fun b => b = w.heap.size) w' w.heap.size n [] (.slice none 0 0) [] := by
  have h1 : (0 : Int) ≤ n := by omega
  have h2 : (n : Int) ≤ 16 := by omega
  have h3 : ¬ ((n : Int) < 0) := by omega
  have h4 : ¬ ((16 : Int) < n) := by omega
  go_enter Try.func24, Try.ntmps24
  go_wp2
  go_ret2
  refine ⟨rfl, Keep.alloc _ _ _, by simp, new_block _ _, World.ownsRow_nil _ _ _ _, fun b hb => by simp [Value.ownBlock] at hb, rfl, rfl, fun j t ht => by simp at ht⟩
set_option maxRecDepth 100000 in
theorem refNew_bad (n : Int) (hn : n < 0 ∨ 16 < n) (w : World) : Calls Try.prog 24 #[.int .i64 n] w fun e w' => e = .returned (.tuple #[.pointer none, .int .i64 2]) ∧ w' = w := by
  go_enter Try.func24, Try.ntmps24
  rcases hn with h | h
  · go_wp2
    go_ret2
    exact ⟨rfl, rfl⟩
  · have h3 : ¬ (n < 0) := by omega
    go_wp2
    go_ret2
    exact ⟨rfl, rfl⟩
end Go.Proofs
