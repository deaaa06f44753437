/- What the reading of a program says of memory. -/
import Derived.Test.YtdedcebabimioaaRows
import Derived.Test.YtdedcebabimioaaRead
import Derived.Test.YtdedcebabimioaaSameP
import Derived.Deep.Strs
namespace Go.Proofs
open Go.RowKit Go.Ink Go.ChangeShapes Go.WideShapes
set_option linter.unusedVariables false
set_option linter.unusedSimpArgs false
section
variable {H : Type} {enc : TypeId × Value → H} {w : World}
theorem cells_inp : Try.prog.cellsOf 75 = 3 := by kernel_rfl
theorem cells_out : Try.prog.cellsOf 77 = 2 := by kernel_rfl
theorem cells_int : Try.prog.cellsOf 3 = 1 := by kernel_rfl
theorem cells_prog : Try.prog.cellsOf 45 = 3 := by kernel_rfl
theorem cells_inps : Try.prog.cellsOf 42 = 1 := by kernel_rfl
theorem cells_outs : Try.prog.cellsOf 43 = 1 := by kernel_rfl
theorem cells_rules : Try.prog.cellsOf 41 = 1 := by kernel_rfl

theorem read_inp {fuel : Nat} {cs : List Value} {y : DataW H × List MemPlace} (h : DataW.trod enc Try.prog w 0 (fun _ => true) true fuel 75 cs = some y) : ∃ x : InpD, cs = inpCells x := by
  obtain ⟨y0, y1, y2, n, rfl, hl, h0, h1, h2⟩ := Deep.trod_struct3 Try.underlying75 h
  rw [cells_inp] at hl
  match cs, hl with
  | [c0, c1, c2], _ =>
    simp only [cells_int, cells_string, List.drop_zero, List.drop_succ_cons, List.take_succ_cons, List.take_zero] at h0 h1 h2
    obtain ⟨s, hs, _⟩ := DataW.trod_string Try.underlying9 h0
    obtain ⟨k, hk, _⟩ := DataW.trod_int Try.underlying3 h1
    obtain ⟨s', hs', _⟩ := DataW.trod_string Try.underlying9 h2
    cases hs
    cases hk
    cases hs'
    exact ⟨⟨s, k, s'⟩, rfl⟩
theorem read_out {fuel : Nat} {cs : List Value} {y : DataW H × List MemPlace} (h : DataW.trod enc Try.prog w 0 (fun _ => true) true fuel 77 cs = some y) : ∃ x : OutD, cs = outCells x := by
  obtain ⟨y0, y1, n, rfl, hl, h0, h1⟩ := trod_struct2 Try.underlying77 h
  rw [cells_out] at hl
  match cs, hl with
  | [c0, c1], _ =>
    simp only [cells_int, cells_string, List.drop_zero, List.drop_succ_cons, List.take_succ_cons, List.take_zero] at h0 h1
    obtain ⟨s, hs, _⟩ := DataW.trod_string Try.underlying9 h0
    obtain ⟨k, hk, _⟩ := DataW.trod_int Try.underlying3 h1
    cases hs
    cases hk
    exact ⟨⟨s, k⟩, rfl⟩
theorem read_prog {fuel : Nat} {cs : List Value} {y : DataW H × List MemPlace} (h : DataW.trod enc Try.prog w 0 (fun _ => true) true fuel 45 cs = some y) (hb : bulk y.1 ≤ 1048576) :
    ∃ (p : ProgD) (vi vo vr : Value), cs = [vi, vo, vr] ∧ ProgIn w.heap.size w vi vo vr p ∧ (p.rules.map ruleSize).sum ≤ bulk y.1 := by
  obtain ⟨y0, y1, y2, n, rfl, hl, h0, h1, h2⟩ := Deep.trod_struct3 Try.underlying45 h
  rw [cells_prog] at hl
  match cs, hl with
  | [c0, c1, c2], _ =>
    simp only [cells_inps, cells_outs, cells_rules, List.drop_zero, List.drop_succ_cons, List.take_succ_cons, List.take_zero] at h0 h1 h2
    simp only [bulk_agg, List.map_cons, List.map_nil, List.sum_cons, List.sum_nil] at hb ⊢
    obtain ⟨vi, is, hi, hi2, _⟩ := read_slice (E := InpE) (size := fun _ => 0) Try.underlying42 cells_inp (by omega) h0 (by omega) (fun b off n cs' y' _ hc h' _ => by
      obtain ⟨x, rfl⟩ := read_inp h'
      exact ⟨x, hc, by omega⟩)
    obtain ⟨vo, os, ho, ho2, _⟩ := read_slice (E := OutE) (size := fun _ => 0) Try.underlying43 cells_out (by omega) h1 (by omega) (fun b off n cs' y' _ hc h' _ => by
      obtain ⟨x, rfl⟩ := read_out h'
      exact ⟨x, hc, by omega⟩)
    obtain ⟨vr, rs, hr, hr2, _, hr3⟩ := read_slice (E := RuleE w.heap.size) (size := ruleSize) Try.underlying41 cells_rule (by omega) h2 (by omega) (fun b off n cs' y' _ hc h' hb' => by
      obtain ⟨r, sh, sb, rfl, h1, h2, _⟩ := read_rule h' hb'
      exact ⟨r, ⟨sh, sb, hc, h1⟩, h2⟩)
    cases hi
    cases ho
    cases hr
    exact ⟨⟨is, os, rs⟩, c0, c1, c2, rfl, ⟨hi2, ho2, hr2⟩, by simp only; omega⟩
end

theorem rule_lens {n : Nat} {w : World} {b o : Nat} {r : RuleD} (h : RuleE n w b o r) : r.head.args.length ≤ 1073741824 ∧ r.body.length ≤ 1073741824 ∧ ∀ L, L ∈ r.body → L.atom.args.length ≤ 1073741824 := by
  obtain ⟨sh, sb, _, h1, h2⟩ := h
  refine ⟨by obtain ⟨_, _, _, h, _⟩ := h1; exact h, by obtain ⟨_, _, _, h, _⟩ := h2; exact h, fun L hL => ?_⟩
  exact slice_all (G := fun L : LitD => L.atom.args.length ≤ 1073741824) h2 (fun _ _ x hx => by obtain ⟨sa, _, _, _, _, h, _⟩ := hx; exact h) L hL
theorem stands_size (r : RuleD) : r.stands.length ≤ 2 * ruleSize r := by
  have h : r.names.length = r.stands.length := by simp [RuleD.names]
  rw [← h, names_eq, List.length_append]
  have h1 := uses_le r.headLit
  have h2 := uses_sum r.body
  simp only [RuleD.headLit] at h1 ⊢
  simp only [ruleSize]
  omega
theorem stands_sum (rs : List RuleD) : (rs.map fun r => r.stands.length).sum ≤ 2 * (rs.map ruleSize).sum := by
  induction rs with
  | nil => simp
  | cons r rs ih =>
    have := stands_size r
    simp only [List.map_cons, List.sum_cons]
    omega
theorem size_mem {rs : List RuleD} {r : RuleD} (h : r ∈ rs) : ruleSize r ≤ (rs.map ruleSize).sum := by
  induction rs with
  | nil => cases h
  | cons a rs ih =>
    simp only [List.map_cons, List.sum_cons]
    rcases List.mem_cons.1 h with rfl | h
    · omega
    · have := ih h; omega
theorem fits_size (r : RuleD) : (r.body.flatMap LitD.uses).length ≤ 2 * ruleSize r := by
  have h2 := uses_sum r.body
  simp only [ruleSize]
  omega
end Go.Proofs
