/- Layer 16 (plan): the document's literals in form (PnE turned). -/
import Derived.Test.YtichfebfcapnhaaProg
import Derived.Test.YtichfebfcapnhaaPnE
namespace Go.Proofs
open Go.RowKit Go.Ink
set_option linter.unusedVariables false
set_option linter.unusedSimpArgs false
attribute [local go_sem] Oper.semAt_some

set_option maxRecDepth 100000 in
set_option maxHeartbeats 2000000 in
theorem refLit_any (n : Nat) (L : LitD) (hsm : smallL L) (sa : Value) (w : World) (ha : TermsIn n w sa L.atom.args) (hn : n ≤ w.heap.size) : Calls Try.prog 88 #[litV L sa] w fun e w' => e = .returned (.bool (litB L)) ∧ Keep (fun b => b < w.heap.size) w w' := by
  have hat := fun W (hW : TermsIn n W sa L.atom.args) (h2 : n ≤ W.heap.size) => refAtom_any n L.atom hsm.1 sa W hW h2
  have ht1 := fun W => refTerm_any L.left hsm.2.1 W
  have ht2 := fun W => refTerm_any L.right hsm.2.2 W
  have hq1 := fun W => eql_term L.left tNone W
  have hq2 := fun W => eql_term L.right tNone W
  have hL : litB L = if L.kind = 1 ∨ L.kind = 2 then atomB L.atom && decide (L.left = tNone) && decide (L.right = tNone) else if L.kind = 3 then decide (L.atom.pred = ⟨#[]⟩) && decide (L.atom.args.length = 0) && termB L.left && termB L.right else false := rfl
  obtain ⟨bA, hbA⟩ : ∃ b, atomB L.atom = b := ⟨_, rfl⟩
  obtain ⟨bq1, hbq1⟩ : ∃ b, decide (L.left = tNone) = b := ⟨_, rfl⟩
  obtain ⟨bq2, hbq2⟩ : ∃ b, decide (L.right = tNone) = b := ⟨_, rfl⟩
  obtain ⟨bt1, hbt1⟩ : ∃ b, termB L.left = b := ⟨_, rfl⟩
  obtain ⟨bt2, hbt2⟩ : ∃ b, termB L.right = b := ⟨_, rfl⟩
  obtain ⟨bl, hbl⟩ : ∃ b, litB L = b := ⟨_, rfl⟩
  rw [hbl]
  rw [hbl, hbA, hbq1, hbq2, hbt1, hbt2] at hL
  simp only [hbA] at hat
  simp only [hbt1] at ht1
  simp only [hbt2] at ht2
  simp only [hbq1] at hq1
  simp only [hbq2] at hq2
  clear hsm hbl hbA hbq1 hbq2 hbt1 hbt2
  obtain ⟨k, ⟨pr, args⟩, ⟨lv, lt⟩, ⟨rv, rt⟩⟩ := L
  unfold litV
  unfold termV tNone at hq1 hq2
  unfold termV at ht1 ht2
  simp only at *
  obtain ⟨aa, ca, rfl, hla, hca, -⟩ := id ha
  obtain ⟨m, hm⟩ : ∃ m, args.length = m := ⟨_, rfl⟩
  rw [hm] at hL ha hat hla hca
  rw [hm]
  obtain ⟨nb, hnb⟩ : ∃ nb, w.heap.size = nb := ⟨_, rfl⟩
  obtain ⟨W0, hW0⟩ : ∃ W0, w.alloc (.cells #[.int .i64 k, .string pr, .slice aa m ca, .bool lv, .string lt, .bool rv, .string rt] 78) = W0 := ⟨_, rfl⟩
  have k0 : Keep (fun _ => True) w W0 := by rw [← hW0]; exact Keep.alloc _ _ _
  have b0 : W0.heap[nb]? = some (.cells #[.int .i64 k, .string pr, .slice aa m ca, .bool lv, .string lt, .bool rv, .string rt] 78 (0, 0)) := by rw [← hW0, ← hnb]; exact new_block _ _
  have l0 := heap_lt b0
  have hsz := k0.size
  have hat0 := hat W0 (terms_keep ha (k0.mono fun _ _ _ => trivial)) (by omega)
  have c0 := cells_of_block b0 0 _ rfl
  have c1 := cells_of_block b0 1 _ rfl
  have c2 := cells_of_block b0 2 _ rfl
  have c3 := cells_of_block b0 3 _ rfl
  have c4 := cells_of_block b0 4 _ rfl
  have c5 := cells_of_block b0 5 _ rfl
  have c6 := cells_of_block b0 6 _ rfl
  simp only [Nat.zero_add] at c0 c1 c2 c3 c4 c5 c6
  clear ha hat hla hca hm
  have XhL := Lib.hid hL
  have Xhat0 := Lib.hid hat0
  have Xht1 := Lib.hid ht1
  have Xht2 := Lib.hid ht2
  have Xk0 := Lib.hid k0
  have XhW0 := Lib.hid hW0
  have Xhnb := Lib.hid hnb
  have Xb0 := Lib.hid b0
  clear hL hat0 ht1 ht2 k0 hW0 hnb b0
  by_cases e12 : k = 1 ∨ k = 2
  · have hL2 : bl = (bA && bq1 && bq2) := by rw [XhL.out, if_pos e12]
    have XhL2 := Lib.hid hL2
    clear hL2
    rcases e12 with rfl | rfl
    all_goals cases bA
    all_goals (try cases bq1)
    all_goals go_enter Try.func88, Try.ntmps88
    all_goals go_wp2_with fail
    all_goals rw [XhW0.out, Xhnb.out]
    all_goals refine Xhat0.out.mono ?_
    all_goals (rintro e W1 ⟨rfl, k1⟩; have c3' := k1.cell c3 l0; have c4' := k1.cell c4 l0; have c5' := k1.cell c5 l0; have c6' := k1.cell c6 l0; have hz1 := k1.size; have l0' : nb < W1.heap.size := (by omega); have kk : Keep (fun b => b < nb) w W1 := (Xk0.out.mono fun _ _ _ => trivial).trans (k1.mono fun b hb _ => (by omega)); clear k1 c0 c1 c2 c3 c4 c5 c6; have Xkk := Lib.hid kk; clear kk)
    all_goals go_wp2_with fail
    all_goals go_ret
    all_goals exact ⟨by rw [XhL2.out]; (try cases bq1) <;> (try cases bq2) <;> rfl, Xkk.out.mono fun b hb h => by have := Xhnb.out; omega⟩
  · by_cases e3 : k = 3
    · have hL3 : bl = (decide (pr = ⟨#[]⟩) && decide (m = 0) && bt1 && bt2) := by rw [XhL.out, if_neg e12, if_pos e3]
      subst e3
      by_cases hp : pr = ⟨#[]⟩
      · subst hp
        rw [show decide ((⟨#[]⟩ : ByteArray) = ⟨#[]⟩) = true from rfl, Bool.true_and] at hL3
        by_cases hn0 : m = 0
        · subst hn0
          rw [show decide (0 = 0) = true from rfl, Bool.true_and] at hL3
          have XhL3 := Lib.hid hL3
          have Xhq1 := Lib.hid hq1
          have Xhq2 := Lib.hid hq2
          clear hL3 hq1 hq2
          cases bt1
          all_goals go_enter Try.func88, Try.ntmps88
          all_goals go_wp2_with fail
          all_goals rw [XhW0.out]
          all_goals refine (Xht1.out _).mono ?_
          all_goals (rintro e W1 ⟨rfl, k1⟩; have c6' := k1.cell c6 trivial; have c5' := k1.cell c5 trivial; have l0' := k1.size; have kk : Keep (fun b => b < nb) w W1 := ((Xk0.out.mono fun _ _ _ => trivial).trans (k1.mono fun b hb _ => trivial)); clear k1 c0 c1 c2 c3 c4 c5 c6; have Xkk := Lib.hid kk; clear kk)
          · go_wp2_with fail
            go_ret
            exact ⟨by rw [XhL3.out]; rfl, Xkk.out.mono fun b hb h => by have := Xhnb.out; omega⟩
          · rw [Xhnb.out]
            go_wp2_with fail
            refine (Xht2.out _).mono ?_
            rintro e W2 ⟨rfl, k2⟩
            go_wp2_with fail
            go_ret
            exact ⟨by rw [XhL3.out]; rfl, (Xkk.out.trans (k2.mono fun _ _ _ => trivial)).mono fun b hb h => by have := Xhnb.out; omega⟩
        · have hn1 : ¬ (m : Int) = 0 := by omega
          rw [decide_eq_false hn0, Bool.false_and, Bool.false_and] at hL3
          have XhL3 := Lib.hid hL3
          have Xhq1 := Lib.hid hq1
          have Xhq2 := Lib.hid hq2
          clear hL3 hq1 hq2
          go_enter Try.func88, Try.ntmps88
          go_wp2_with fail
          go_ret
          exact ⟨by rw [XhL3.out]; rfl, by rw [XhW0.out]; exact Xk0.out.mono fun _ _ _ => trivial⟩
      · rw [decide_eq_false hp, Bool.false_and, Bool.false_and, Bool.false_and] at hL3
        have hp1 := bytes_nil hp
        have XhL3 := Lib.hid hL3
        have Xhq1 := Lib.hid hq1
        have Xhq2 := Lib.hid hq2
        clear hL3 hq1 hq2
        go_enter Try.func88, Try.ntmps88
        go_wp2_with fail
        go_ret
        exact ⟨by rw [XhL3.out]; rfl, by rw [XhW0.out]; exact Xk0.out.mono fun _ _ _ => trivial⟩
    · have hL4 : bl = false := by rw [XhL.out, if_neg e12, if_neg e3]
      have e1 : ¬ k = 1 := fun h => e12 (.inl h)
      have e2 : ¬ k = 2 := fun h => e12 (.inr h)
      clear e12
      have XhL4 := Lib.hid hL4
      have Xhq1 := Lib.hid hq1
      have Xhq2 := Lib.hid hq2
      clear hL4 hq1 hq2
      go_enter Try.func88, Try.ntmps88
      go_wp2_with fail
      go_ret
      exact ⟨by rw [XhL4.out]; rfl, by rw [XhW0.out]; exact Xk0.out.mono fun _ _ _ => trivial⟩
end Go.Proofs
