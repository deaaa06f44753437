/- trial -/
import Derived.Test.YtdedcebabimioaaProg
import Derived.Test.YtdedcebabimioaaData
namespace Go.Proofs
open Go.RowKit Go.Ink
set_option linter.unusedVariables false
set_option linter.unusedSimpArgs false
attribute [local go_sem] Oper.semAt_some

/-- what the iterator of a literal's terms leans on -/
def termsV (n0 Bx : Nat) (w0 : World) (cs : Array Value) (W : World) : Prop := W.heap[Bx]? = some (.cells cs 37 (0, 0)) ∧ Keep (fun k => k < n0) w0 W

set_option maxRecDepth 100000 in
set_option maxHeartbeats 1000000 in
theorem terms1_iter (n0 Bx : Nat) (w0 : World) (L : LitD) (sa : Value) (hsa : TermsIn n0 w0 sa L.atom.args) (hn0 : n0 ≤ w0.heap.size) :
    Iter Try.prog 41 #[.pointer (some ⟨Bx, 0, none⟩)] (fun k => #[(L.terms.getD k default).val]) L.terms.length (termsV n0 Bx w0 (litCells L sa).toArray) (fun _ => False) := by
  intro l J Jx O0 W hl hO0 hV hJ hJx hY h0
  refine calls_of0 Try.func41 rfl ?_
  simp only [Try.ntmps41, List.size_toArray, List.length_cons, List.length_nil, Nat.reduceAdd, Nat.reduceSub, Array.replicate_succ, Array.replicate_zero, List.push_toArray, List.append_toArray, List.nil_append, List.cons_append]
  obtain ⟨a, cap, rfl, hlen, hcap, hel⟩ := id hsa
  obtain ⟨hB, hK⟩ := id hV
  have hc := cells_of_block hB
  have c0 := hc 0 _ rfl
  have c1 := hc 1 _ rfl
  have c2 := hc 2 _ rfl
  simp only [Nat.zero_add, Nat.add_zero] at c0 c1 c2
  have HJ := Lib.hid hJ
  have HJx := Lib.hid hJx
  have HY := Lib.hid hY
  have HV := Lib.hid hV
  have HB := Lib.hid hB
  have HK := Lib.hid hK
  have HO := Lib.hid hO0
  have HE := Lib.hid hel
  have HS := Lib.hid hsa
  clear hJ hJx hY hV hB hK hO0 hc hel hsa
  by_cases h12 : L.kind = 1 ∨ L.kind = 2
  · have ht : L.terms = L.atom.args := by simp [LitD.terms, h12]
    have hk12 : ((L.kind == 1) = true) ∨ ((L.kind == 1) = false ∧ (L.kind == 2) = true) := by rcases h12 with h | h <;> simp [h]
    have HT := Lib.hid ht
    clear h12 ht
    rcases hk12 with hk1 | ⟨hk1, hk2⟩
    all_goals
      gi_wp2
      gi_loopw [14] (fun i wr => ∃ (k : Nat) (O : Nat → Prop), k ≤ L.atom.args.length ∧ i = .int .i64 k ∧ J k O wr ∧ termsV n0 Bx w0 (litCells L (.slice a L.atom.args.length cap)).toArray wr ∧ W.heap.size ≤ wr.heap.size) (fun i _ => L.atom.args.length - (intOf i).toNat)
      case atStart => exact ⟨0, O0, by omega, rfl, h0, HV.out, by omega⟩
      case round =>
        obtain ⟨k, O, hk, rfl, hJk, hVk, hsz⟩ := hrel
        have HJk := Lib.hid hJk
        have HVk := Lib.hid hVk
        clear hJk hVk h0 c0 c1 c2
        by_cases hlt : k < L.atom.args.length
        · obtain ⟨t, ht⟩ : ∃ t, L.atom.args[k]? = some t := ⟨_, List.getElem?_eq_getElem hlt⟩
          have ht' : L.terms.getD k default = t := by rw [HT.out]; simp [List.getD, ht]
          obtain ⟨b, off, rfl, hb, e1, e2⟩ := HE.out k t ht
          have d1 := HVk.out.2.cell e1 hb
          have d2 := HVk.out.2.cell e2 hb
          obtain ⟨fn, tmps, assign, body, hy, hR⟩ := HY.out k O (wr.alloc (.cells #[.bool t.var, .string t.text] 35)) (by rw [HT.out]; exact hlt)
            (HJ.out _ _ _ _ HJk.out (Keep.alloc _ _ _)) ⟨(Keep.alloc (fun _ => True) _ _).heap HVk.out.1 trivial, HVk.out.2.trans (Keep.alloc _ _ _)⟩ (by simp; omega)
          simp only [ht', TermD.val] at hy
          have HR := Lib.hid hR
          clear e1 e2 ht ht' hR
          gi_wp2
          refine ⟨rfl, HR.out.mono ?_⟩
          rintro e Y ⟨O', hO1, hO2, hKY, hVY, (⟨rfl, hJY⟩ | ⟨rfl, hJY⟩)⟩
          all_goals
            have HK1 := Lib.hid hKY
            have HV1 := Lib.hid hVY
            have HJ1 := Lib.hid hJY
            have hs1 := hKY.size
            simp at hs1
            clear hKY hVY hJY hO1 hO2 HR hy
            gi_wp2
          · go_roundw
            case rel => exact ⟨k + 1, O', by omega, by go_num, HJ1.out, HV1.out, by omega⟩
            case measure => simp [intOf]; omega
          · refine bodyPost_ret (results_none rfl _ _ _) rfl ?_
            exact ⟨⟨_, rfl⟩, by omega, HV1.out, O', .inr ⟨k, by rw [HT.out]; exact hlt, HJ1.out⟩⟩
        · gi_wp2
          go_end0
          obtain rfl : k = L.atom.args.length := by omega
          exact ⟨⟨_, rfl⟩, hsz, HVk.out, O, .inl (by rw [HT.out]; exact HJk.out)⟩
  · have hk1 : (L.kind == 1) = false := by simp; omega
    have hk2 : (L.kind == 2) = false := by simp; omega
    by_cases h3 : L.kind = 3
    · have hk3 : (L.kind == 3) = true := by simp [h3]
      have ht : L.terms = [L.left, L.right] := by simp [LitD.terms, h3]
      have hB := HB.out
      have hc := cells_of_block hB
      have c3 := hc 3 _ rfl
      have c4 := hc 4 _ rfl
      simp only [Nat.zero_add] at c3 c4
      obtain ⟨fn, tmps, assign, body, hy, hR⟩ := HY.out 0 O0 W (by rw [ht]; simp) h0 HV.out (Nat.le_refl _)
      simp only [ht, List.getD_cons_zero, TermD.val] at hy
      have HR := Lib.hid hR
      have HT := Lib.hid ht
      clear h12 h3 ht hR hB hc
      gi_wp2
      refine ⟨rfl, HR.out.mono ?_⟩
      rintro e Y ⟨O', hO1, hO2, hKY, hVY, (⟨rfl, hJY⟩ | ⟨rfl, hJY⟩)⟩
      · have hc := cells_of_block hVY.1
        have c5 := hc 5 _ rfl
        have c6 := hc 6 _ rfl
        simp only [Nat.zero_add] at c5 c6
        obtain ⟨fn, tmps, assign, body, hy, hR⟩ := HY.out 1 O' Y (by rw [HT.out]; simp) hJY hVY hKY.size
        simp only [HT.out, List.getD_cons_succ, List.getD_cons_zero, TermD.val] at hy
        have HR := Lib.hid hR
        have HK1 := Lib.hid hKY
        have hs1 := hKY.size
        clear hKY hVY hJY hO1 hO2 hR hc
        gi_wp2
        refine ⟨rfl, HR.out.mono ?_⟩
        rintro e Y2 ⟨O2, hO1, hO2, hKY, hVY, hJY⟩
        have HV1 := Lib.hid hVY
        have hs2 := hKY.size
        have HJ1 : Hid (∃ O', J L.terms.length O' Y2 ∨ ∃ k, k < L.terms.length ∧ Jx k O' Y2) := Lib.hid (by
          rw [HT.out]
          rcases hJY with ⟨_, h⟩ | ⟨_, h⟩
          · exact ⟨O2, .inl h⟩
          · exact ⟨O2, .inr ⟨1, by simp, h⟩⟩)
        rcases hJY with ⟨rfl, hJY⟩ | ⟨rfl, hJY⟩
        all_goals
          clear hO1 hO2 hKY hVY hJY
          gi_wp2
          go_end0
          exact ⟨⟨_, rfl⟩, by omega, HV1.out, HJ1.out⟩
      · have HV1 := Lib.hid hVY
        have HJ1 := Lib.hid hJY
        have hs1 := hKY.size
        clear hKY hVY hJY hO1 hO2
        gi_wp2
        go_end0
        exact ⟨⟨_, rfl⟩, by omega, HV1.out, O', .inr ⟨0, by rw [HT.out]; simp, HJ1.out⟩⟩
    · have hk3 : (L.kind == 3) = false := by simp [h3]
      have ht : L.terms = [] := by simp [LitD.terms, h12, h3]
      have HT := Lib.hid ht
      clear h12 h3 ht
      gi_wp2
      go_end0
      exact ⟨⟨_, rfl⟩, Nat.le_refl _, HV.out, O0, .inl (by rw [HT.out]; exact h0)⟩

theorem terms_any (L : LitD) (sa : Value) (w : World) : Calls Try.prog 34 #[.agg (litCells L sa).toArray] w fun e w' =>
    e = .returned (.func (.func 41) #[] #[.pointer (some ⟨w.heap.size, 0, none⟩)]) ∧ w' = w.alloc (.cells (litCells L sa).toArray 37) := by
  unfold litCells
  go_enter Try.func34, Try.ntmps34
  go_wp2
  go_ret
  exact ⟨rfl, rfl⟩
end Go.Proofs
