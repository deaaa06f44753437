/- What the reading of an argument says of memory: numbers, slices of them, slices of these. -/
import Derived.Test.YtbaemcmagkmjiaaRows
import Derived.Test.YtbaemcmagkmjiaaReadG
import Derived.Test.YtbaemcmagkmjiaaRelK
import Derived.Test.YtbaemcmagkmjiaaRelB
namespace Go.Proofs
open Go.RowKit Go.Ink Go.ChangeShapes Go.WideShapes
set_option linter.unusedVariables false
set_option linter.unusedSimpArgs false

section
variable {H : Type} {enc : TypeId × Value → H} {w : World}

theorem cells_int : Try.prog.cellsOf 3 = 1 := by kernel_rfl
theorem cells_ints : Try.prog.cellsOf 23 = 1 := by kernel_rfl
theorem okI_wf {n : Int} (h : (Lit.int .i64 n).wf = true) : okI n := by
  obtain ⟨h1, h2⟩ := Bool.and_eq_true_iff.1 (show (decide (IntKind.i64.min ≤ n) && decide (n ≤ IntKind.i64.max)) = true from h)
  have h3 : (-9223372036854775808 : Int) ≤ n := of_decide_eq_true h1
  have h4 : n ≤ (9223372036854775807 : Int) := of_decide_eq_true h2
  exact ⟨h3, h4⟩
theorem read_int {fuel : Nat} {cs : List Value} {y : DataW H × List MemPlace} (h : DataW.trod enc Try.prog w 0 (fun _ => true) true fuel 3 cs = some y) :
    ∃ x : Int, cs = [.int .i64 x] ∧ okI x := by
  obtain ⟨b, hb, _, hw⟩ := DataW.trod_int Try.underlying3 h
  exact ⟨b, hb, okI_wf hw⟩
theorem read_ints {fuel : Nat} {cs : List Value} {y : DataW H × List MemPlace} (h : DataW.trod enc Try.prog w 0 (fun _ => true) true fuel 23 cs = some y) (hb : bulk y.1 ≤ 1048576) :
    ∃ v xs, cs = [v] ∧ IntsIn w.heap.size w v xs ∧ xs.length + 1 ≤ bulk y.1 ∧ okT xs := by
  obtain ⟨v, xs, h1, h2, h3, _⟩ := read_slice (E := fun w b o t => IntE w b o t ∧ okI t) (size := fun _ => 0) Try.underlying23 cells_int (by omega) h hb (fun b off n cs' y' _ hc h' _ => by
    obtain ⟨x, rfl, hx⟩ := read_int h'
    exact ⟨x, ⟨hc 0 _ rfl, hx⟩, by omega⟩)
  refine ⟨v, xs, h1, h2.mono fun _ _ _ _ h => h.1, h3, fun x hx => ?_⟩
  obtain ⟨a, cap, _, _, _, hel⟩ := h2
  obtain ⟨k, hk⟩ := List.mem_iff_getElem?.1 hx
  obtain ⟨b, off, _, _, he⟩ := hel k x hk
  exact he.2
theorem read_lists {fuel : Nat} {cs : List Value} {y : DataW H × List MemPlace} (h : DataW.trod enc Try.prog w 0 (fun _ => true) true fuel 22 cs = some y) (hb : bulk y.1 ≤ 1048576) :
    ∃ v ts, cs = [v] ∧ ListsIn w.heap.size w v ts ∧ (ts.map fun t => t.length + 1).sum + 1 ≤ bulk y.1 ∧ ts.length + 1 ≤ bulk y.1 ∧ ∀ t, t ∈ ts → okT t := by
  obtain ⟨v, xs, h1, h2, h3, h4⟩ := read_slice (E := fun W b o t => ListE w.heap.size W b o t ∧ okT t) (size := fun t : List Int => t.length + 1) Try.underlying22 cells_ints (by omega) h hb (fun b off n cs' y' _ hc h' hb' => by
    obtain ⟨v, t, rfl, ht, hl, hok⟩ := read_ints h' hb'
    exact ⟨t, ⟨⟨v, hc 0 _ rfl, ht⟩, hok⟩, hl⟩)
  refine ⟨v, xs, h1, h2.mono fun _ _ _ _ h => h.1, h4, h3, fun x hx => ?_⟩
  obtain ⟨a, cap, _, _, _, hel⟩ := h2
  obtain ⟨k, hk⟩ := List.mem_iff_getElem?.1 hx
  obtain ⟨b, off, _, _, he⟩ := hel k x hk
  exact he.2
end
end Go.Proofs
