/- PROVED HERE: RelationCutsUptoSaid: of any arity, tuples, columns and cut that are together of bulk at most 1048576 inklinglaw04.RelationCuts answers true, and what was handed in reads as it did. CONDITIONS: none beyond the bulk that the given statement names. -/
import Derived.Test.YtbaemcmagkmjiaaRows
import Derived.Test.YtbaemcmagkmjiaaRelFF
import Derived.Test.YtbaemcmagkmjiaaReadI
import Derived.Test.YtbaemcmagkmjiaaEnds
import Derived.WalkKit
import Derived.ProofKit
import Derived.OpenShut
import Derived.JoinedCond
namespace Go.Proofs.Ytbaemcmagkmjiaa.relationCuts
open Go.ChangeShapes Go.WideShapes Go.ChangeAt Go.RowKit Go.Ink
set_option linter.unusedVariables false
set_option linter.unusedSimpArgs false

theorem own : ownKnob Try.prog.godebug = none := by kernel_rfl
theorem laid : laidOutB Try.prog = true := by kernel_rfl


theorem okWide_lt {P : Program} {w : World} {base : Nat} {t e : TypeId} {a : Addr} {n c : Nat} (ht : P.underlying t = some (.slice e)) (h : Value.okWide P w .any base t (.slice (some a) n c)) : a.block < w.heap.size := by
  simp only [Value.okWide, ht, Cell.okWide, Cell.ok] at h
  obtain ⟨_, _, _, _, row, cells, hs, _⟩ := h
  unfold World.shape? at hs
  by_cases hb : a.block < w.heap.size
  · exact hb
  · rw [Array.getElem?_eq_none (by omega)] at hs
    simp at hs

/-- WHAT THE WALK GIVES, where what is read is small. -/
theorem contract (H : Type) (enc : TypeId × Value → H) (W : World) (base : Nat) (args : Array Value) (ds gs : List (DataW H)) (before : List MemPlace)
    (hval : ∀ (j : Nat) t v, Try.f4.params[j]? = some t → args[j]? = some v → Value.okWide Try.prog W .any base t v)
    (hW : DataW.Whole enc Try.prog Try.f4.params.toList Rows.relationCutsSpec.vars false W args.toList ds gs before) (hk : Rows.uptoSmall H (ds ++ gs) = true) :
    Calls Try.prog 4 args W fun e W' => ∃ v, e = .returned v ∧ Rows.relationCutsSpec.post enc Try.prog Try.f4 false true false false W args v W' := by
  have hW' := hW
  obtain ⟨p, q, hA0, hV, rfl, hfz, hnd⟩ := hW
  have hA : DataW.TrodAll enc Try.prog W 0 (fun _ => true) true Try.f4.params.toList args.toList ds p := hA0
  rw [Try.params4] at hA hval
  obtain ⟨v0, vs0, d0, ds0, p0, q0, hargs, rfl, rfl, h0, r0⟩ := trodAll_cons hA
  obtain ⟨v1, vs1, d1, ds1, p1, q1, rfl, rfl, rfl, h1, r1⟩ := trodAll_cons r0
  obtain ⟨v2, vs2, d2, ds2, p2, q2, rfl, rfl, rfl, h2, r2⟩ := trodAll_cons r1
  obtain ⟨v3, vs3, d3, ds3, p3, q3, rfl, rfl, rfl, h3, r3⟩ := trodAll_cons r2
  obtain ⟨rfl, rfl, rfl⟩ := trodAll_nil r3
  obtain rfl : args = #[v0, v1, v2, v3] := by cases args; simp_all
  obtain ⟨rfl, rfl⟩ := trodVars_none hV
  clear hA0
  simp only [List.append_nil] at hk
  have hB : bulks [d0, d1, d2, d3] ≤ 1048576 := of_decide_eq_true hk
  rw [bulks_sum] at hB
  simp only [List.map_cons, List.map_nil, List.sum_cons, List.sum_nil] at hB
  obtain ⟨n0, rfl⟩ := okWide_int Try.underlying3 (hval 0 3 v0 rfl rfl)
  obtain ⟨a1, l1, cp1, rfl⟩ := okWide_slice Try.underlying22 (hval 1 22 v1 rfl rfl)
  have hv2 := hval 2 23 v2 rfl rfl
  obtain ⟨a2, l2, cp2, rfl⟩ := okWide_slice Try.underlying23 hv2
  obtain ⟨n3, rfl⟩ := okWide_int Try.underlying3 (hval 3 3 v3 rfl rfl)
  obtain ⟨f1, h1⟩ := h1
  obtain ⟨f2, h2⟩ := h2
  obtain ⟨x1, ts, e1, hts, _, hts1, ok1⟩ := read_lists h1 (by simp only; omega)
  obtain ⟨x2, cs, e2, hcs, hcs1, ok2⟩ := read_ints h2 (by simp only; omega)
  simp only [Value.cells] at e1 e2
  cases e1
  cases e2
  simp only at hts1 hcs1
  have hcall : Calls Try.prog 4 #[.int .i64 n0, .slice a1 l1 cp1, .slice a2 l2 cp2, .int .i64 n3] W fun e w' => e = .returned (.bool true) ∧ Keep (fun b => b < W.heap.size) W w' := by
    by_cases hn : 0 ≤ n0 ∧ n0 ≤ 16
    · obtain ⟨n, rfl⟩ := Int.eq_ofNat_of_zero_le hn.1
      exact cuts_good n (by omega) _ _ _ ts cs n3 W hts hcs (Nat.le_refl _) ok1 (by omega) (fun a n c e => okWide_lt Try.underlying23 (by rw [e] at hv2; exact hv2))
    · exact cuts_bad n0 (by omega) _ _ _ ts cs n3 W hts hcs (Nat.le_refl _)
  refine hcall.mono fun e W' ⟨he, hK⟩ => ?_
  subst he
  exact ⟨_, rfl, post_below hW' rfl rfl (fun _ => trodAll_cons_mk (shut_bool Try.underlying4 _) trodAll_mk0) rfl laid
    (by rw [Try.params4]; intro t ht; simp only [List.mem_cons, List.not_mem_nil, or_false] at ht; rcases ht with rfl | rfl | rfl | rfl <;> exact ⟨by kernel_rfl, of_decide_eq_true (by kernel_rfl)⟩) (hK.below (Nat.le_refl _))⟩

set_option maxRecDepth 100000 in
theorem lifted (os : Os) (started : os.Started) (H : Type) (enc : TypeId × Value → H) (F : Stop.Interp) :
    ReturnsInHanded {} Try.checked os 4 .any ((Rows.OpenSpec.upto Rows.relationCutsSpec).pre6 enc Try.prog Try.f4 Rows.relationCutsUptoRow.domain false) (((Rows.OpenSpec.upto Rows.relationCutsSpec).at F).post enc Try.prog Try.f4 false true false false) := by
  refine returnsInHanded_of_cond (C := Try.checked) (s := Rows.OpenSpec.upto Rows.relationCutsSpec) (k := Rows.uptoSmall) rfl own started (by kernel_rfl) Try.func4
    (OpenSpec.witness (enc := enc) (C := Try.checked) (s := Rows.OpenSpec.upto Rows.relationCutsSpec) (k := Rows.uptoSmall) rfl false ⟨#[], #[.int .i64 0, .slice none 0 0, .slice none 0 0, .int .i64 0], []⟩ 8 (by kernel_rfl) (by kernel_rfl) (by kernel_rfl)
      (x := ([.lit (.int .i64 0), .nil, .nil, .lit (.int .i64 0)], [], [])) (by kernel_rfl) rfl (by kernel_rfl)) ?_
  intro W base args ds gs before hval hW _ hk _
  exact contract H enc W base args ds gs before hval hW hk

theorem proved : Rows.RelationCutsUptoSaid :=
  OpenClaim.holds_of_cond 4 Try.f4 rfl rfl rfl rfl rfl rfl rfl ⟨rfl, rfl, rfl, rfl, rfl⟩ rfl rfl rfl rfl rfl (by kernel_rfl) Try.func4 (by kernel_rfl)
    (of_decide_eq_true (by kernel_rfl)) (by unfold Func.isWrapper; first | (rw [if_pos (by decide +kernel)]; kernel_rfl) | (rw [if_neg (by decide +kernel)]; exact ⟨rfl, rfl⟩))
    (fun os started H enc _ F => lifted os started H enc F)
end Go.Proofs.Ytbaemcmagkmjiaa.relationCuts
