/- PROVED HERE: PlanSizesUptoSaid: of any relations that are together of bulk at most 1048576 inklinglaw16.PlanSizes answers true, and what was handed in reads as it did. CONDITIONS: none beyond the bulk that the given statement names. -/
import Derived.Test.YtichfebfcapnhaaRows
import Derived.Test.YtichfebfcapnhaaPpF
import Derived.Test.YtichfebfcapnhaaReadG
import Derived.Test.YtichfebfcapnhaaEnds
import Derived.WalkKit
import Derived.ProofKit
import Derived.OpenShut
import Derived.JoinedCond
import Derived.Deep.Strs
namespace Go.Proofs
open Go.RowKit Go.Ink Go.ChangeShapes Go.WideShapes
set_option linter.unusedVariables false
set_option linter.unusedSimpArgs false
section
variable {H : Type} {enc : TypeId × Value → H} {w : World}
theorem cells_str1 : Try.prog.cellsOf 9 = 1 := by kernel_rfl
theorem cells_int1 : Try.prog.cellsOf 3 = 1 := by kernel_rfl
theorem cells_strs1 : Try.prog.cellsOf 71 = 1 := by kernel_rfl
theorem cells_tups1 : Try.prog.cellsOf 104 = 1 := by kernel_rfl
theorem cells_rela : Try.prog.cellsOf 106 = 3 := by kernel_rfl
theorem read_strs1 {fuel : Nat} {cs : List Value} {y : DataW H × List MemPlace} (h : DataW.trod enc Try.prog w 0 (fun _ => true) true fuel 71 cs = some y) (hb : bulk y.1 ≤ 1048576) :
    ∃ v xs, cs = [v] ∧ StrsIn w.heap.size w v xs := by
  obtain ⟨v, xs, h1, h2, -, -⟩ := read_slice (E := fun w b o t => StrE w b o t) (size := fun _ => 0) Try.underlying71 cells_str1 (by omega) h hb (fun b off n cs' y' _ hc h' _ => by
    obtain ⟨x, rfl, _⟩ := DataW.trod_string Try.underlying9 h'
    exact ⟨x, hc 0 _ rfl, by omega⟩)
  exact ⟨v, xs, h1, h2⟩
theorem read_tups1 {fuel : Nat} {cs : List Value} {y : DataW H × List MemPlace} (h : DataW.trod enc Try.prog w 0 (fun _ => true) true fuel 104 cs = some y) (hb : bulk y.1 ≤ 1048576) :
    ∃ v ts, cs = [v] ∧ TupsIn w.heap.size w v ts := by
  obtain ⟨v, xs, h1, h2, -, -⟩ := read_slice (E := fun W b o t => TupE w.heap.size W b o t) (size := fun _ => 0) Try.underlying104 cells_strs1 (by omega) h hb (fun b off n cs' y' _ hc h' hb' => by
    obtain ⟨v, t, rfl, ht⟩ := read_strs1 h' hb'
    exact ⟨t, ⟨v, hc 0 _ rfl, ht⟩, by omega⟩)
  exact ⟨v, xs, h1, h2⟩
set_option maxRecDepth 100000 in
theorem read_relas {fuel : Nat} {cs : List Value} {y : DataW H × List MemPlace} (h : DataW.trod enc Try.prog w 0 (fun _ => true) true fuel 59 cs = some y) (hb : bulk y.1 ≤ 1048576) :
    ∃ v rs, cs = [v] ∧ RelasIn w.heap.size w v rs := by
  obtain ⟨v, xs, h1, h2, -, -⟩ := read_slice (E := fun W b o r => RelaE w.heap.size W b o r) (size := fun _ => 0) Try.underlying59 cells_rela (by omega) h hb (fun b off n cs' y' _ hc h' hb' => by
    obtain ⟨y0, y1, y2, n, rfl, hl, h0, h1, h2⟩ := Deep.trod_struct3 Try.underlying106 h'
    rw [cells_rela] at hl
    match cs', hl with
    | [c0, c1, c2], _ =>
      simp only [cells_str1, cells_int1, cells_tups1, List.drop_zero, List.drop_succ_cons, List.take_succ_cons, List.take_zero] at h0 h1 h2
      simp only [bulk_agg, List.map_cons, List.map_nil, List.sum_cons, List.sum_nil] at hb' ⊢
      obtain ⟨s, hs, _⟩ := DataW.trod_string Try.underlying9 h0
      obtain ⟨i, hi, _⟩ := DataW.trod_int Try.underlying3 h1
      obtain ⟨tv, ts, hv, ht⟩ := read_tups1 h2 (by omega)
      cases hs
      cases hi
      cases hv
      exact ⟨⟨s, i, ts⟩, ⟨c2, hc, ht⟩, by omega⟩)
  exact ⟨v, xs, h1, h2⟩
end
end Go.Proofs
namespace Go.Proofs.Ytichfebfcapnhaa.planSizes
open Go.ChangeShapes Go.WideShapes Go.ChangeAt Go.RowKit Go.Ink
set_option linter.unusedVariables false
set_option linter.unusedSimpArgs false

theorem own : ownKnob Try.prog.godebug = none := by kernel_rfl
theorem laid : laidOutB Try.prog = true := by kernel_rfl

set_option maxRecDepth 100000 in
/-- WHAT THE WALK GIVES, where what is read is small. -/
theorem contract (H : Type) (enc : TypeId × Value → H) (W : World) (base : Nat) (args : Array Value) (ds gs : List (DataW H)) (before : List MemPlace)
    (hval : ∀ (j : Nat) t v, Try.f6.params[j]? = some t → args[j]? = some v → Value.okWide Try.prog W .any base t v)
    (hW : DataW.Whole enc Try.prog Try.f6.params.toList Rows.planSizesSpec.vars false W args.toList ds gs before) (hk : Rows.uptoSmall H (ds ++ gs) = true) :
    Calls Try.prog 6 args W fun e W' => ∃ v, e = .returned v ∧ Rows.planSizesSpec.post enc Try.prog Try.f6 false true false false W args v W' := by
  have hW' := hW
  obtain ⟨p, q, hA0, hV, rfl, hfz, hnd⟩ := hW
  have hA : DataW.TrodAll enc Try.prog W 0 (fun _ => true) true Try.f6.params.toList args.toList ds p := hA0
  rw [Try.params6] at hA hval
  obtain ⟨v0, vs0, d0, ds0, p0, q0, hargs, rfl, rfl, h0, r0⟩ := trodAll_cons hA
  obtain ⟨rfl, rfl, rfl⟩ := trodAll_nil r0
  obtain rfl : args = #[v0] := Array.toList_inj.1 hargs
  obtain ⟨rfl, rfl⟩ := trodVars_none hV
  clear hA0
  simp only [List.append_nil] at hk
  have hB : bulks [d0] ≤ 1048576 := of_decide_eq_true hk
  rw [bulks_sum] at hB
  simp only [List.map_cons, List.map_nil, List.sum_cons, List.sum_nil] at hB
  obtain ⟨a0, l0, cp0, rfl⟩ := okWide_slice Try.underlying59 (hval 0 59 v0 rfl rfl)
  obtain ⟨f0, h0⟩ := h0
  obtain ⟨x0, rs, e0, hrs⟩ := read_relas h0 (by simp only; omega)
  simp only [Value.cells] at e0
  cases e0
  have hcall : Calls Try.prog 6 #[.slice a0 l0 cp0] W fun e w' => e = .returned (.bool true) ∧ Keep (fun b => b < W.heap.size) W w' := lawPlanSizes_any _ rs _ W hrs (Nat.le_refl _)
  refine hcall.mono fun e W' ⟨he, hK⟩ => ?_
  subst he
  exact ⟨_, rfl, post_below hW' rfl rfl (fun _ => trodAll_cons_mk (shut_bool Try.underlying4 _) trodAll_mk0) rfl laid
    (by rw [Try.params6]; intro t ht; simp only [List.mem_cons, List.not_mem_nil, or_false] at ht; subst ht; exact ⟨by kernel_rfl, of_decide_eq_true (by kernel_rfl)⟩) (hK.below (Nat.le_refl _))⟩

set_option maxRecDepth 100000 in
theorem lifted (os : Os) (started : os.Started) (H : Type) (enc : TypeId × Value → H) (F : Stop.Interp) :
    ReturnsInHanded {} Try.checked os 6 .any ((Rows.OpenSpec.upto Rows.planSizesSpec).pre6 enc Try.prog Try.f6 Rows.planSizesUptoRow.domain false) (((Rows.OpenSpec.upto Rows.planSizesSpec).at F).post enc Try.prog Try.f6 false true false false) := by
  refine returnsInHanded_of_cond (C := Try.checked) (s := Rows.OpenSpec.upto Rows.planSizesSpec) (k := Rows.uptoSmall) rfl own started (by kernel_rfl) Try.func6
    (OpenSpec.witness (enc := enc) (C := Try.checked) (s := Rows.OpenSpec.upto Rows.planSizesSpec) (k := Rows.uptoSmall) rfl false ⟨#[], #[.slice none 0 0], []⟩ 8 (by kernel_rfl) (by kernel_rfl) (by kernel_rfl)
      (x := ([.nil], [], [])) (by kernel_rfl) rfl (by kernel_rfl)) ?_
  intro W base args ds gs before hval hW _ hk _
  exact contract H enc W base args ds gs before hval hW hk

theorem proved : Rows.PlanSizesUptoSaid :=
  OpenClaim.holds_of_cond 6 Try.f6 rfl rfl rfl rfl rfl rfl rfl ⟨rfl, rfl, rfl, rfl, rfl⟩ rfl rfl rfl rfl rfl (by kernel_rfl) Try.func6 (by kernel_rfl)
    (of_decide_eq_true (by kernel_rfl)) (by unfold Func.isWrapper; first | (rw [if_pos (by decide +kernel)]; kernel_rfl) | (rw [if_neg (by decide +kernel)]; exact ⟨rfl, rfl⟩))
    (fun os started H enc _ F => lifted os started H enc F)
end Go.Proofs.Ytichfebfcapnhaa.planSizes
