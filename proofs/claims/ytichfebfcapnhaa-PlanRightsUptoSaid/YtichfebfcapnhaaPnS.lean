/- Layer 16 (plan): the refusals of Make and Least: the program's and the document's. -/
import Derived.Test.YtichfebfcapnhaaProg
import Derived.Test.YtichfebfcapnhaaPnR
import Derived.Test.YtichfebfcapnhaaPnH
namespace Go.Proofs
open Go.RowKit Go.Ink
set_option linter.unusedVariables false
set_option linter.unusedSimpArgs false
attribute [local go_sem] Oper.semAt_some

def askedD (r : RuleD) (l : List SizeD) (arg : Bool) : Int := if !formedB r || !usableB l || arg then 2 else if !safeP r then 14 else 0

set_option maxRecDepth 100000 in
theorem asked_any (n : Nat) (r : RuleD) (sh sb : Value) (l : List SizeD) (sv : Value) (w : World) (hr : RuleIn n w sh sb r) (hl : SizesIn n w sv l) (hn : n ≤ w.heap.size) : Calls Try.prog 37 #[ruleV r sh sb, sv] w fun e w' => e = .returned (.int .i64 (askedD r l false)) ∧ Keep (fun b => b < w.heap.size) w w' := by
  have h1 := fun W (hK : Keep (fun b => b < w.heap.size) w W) => formed_any n r sh sb W (hr.keep (hK.mono fun b _ h => by omega)) (by have := hK.size; omega)
  have h2 := fun W (hK : Keep (fun b => b < w.heap.size) w W) => usable_any n l sv W (hl.keep (hK.mono fun b _ h => by omega)) (by have := hK.size; omega)
  have h3 := fun W (hK : Keep (fun b => b < w.heap.size) w W) => safe_any n r sh sb W (hr.keep (hK.mono fun b _ h => by omega)) (by have := hK.size; omega)
  have hE : askedD r l false = if !formedB r || !usableB l || false then 2 else if !safeP r then 14 else 0 := rfl
  obtain ⟨b1, hb1⟩ : ∃ b, formedB r = b := ⟨_, rfl⟩
  obtain ⟨b2, hb2⟩ : ∃ b, usableB l = b := ⟨_, rfl⟩
  obtain ⟨b3, hb3⟩ : ∃ b, safeP r = b := ⟨_, rfl⟩
  simp only [hb1] at h1
  simp only [hb2] at h2
  simp only [hb3] at h3
  rw [hb1, hb2, hb3] at hE
  obtain ⟨asv, csv, rfl, -, -, -⟩ := id hl
  obtain ⟨⟨pr, args⟩, body⟩ := r
  obtain ⟨hh, hb⟩ := id hr
  unfold ruleV at h1 h3 ⊢
  simp only at hh hb h1 h3 hE ⊢
  obtain ⟨aa, ca, rfl, -, -, -⟩ := id hh
  obtain ⟨ab, cb, rfl, -, -, -⟩ := id hb
  obtain ⟨W0, hW0⟩ : ∃ W0, w.alloc (.cells #[.string pr, .slice aa args.length ca, .slice ab body.length cb] 28) = W0 := ⟨_, rfl⟩
  have k0 : Keep (fun b => b < w.heap.size) w W0 := by rw [← hW0]; exact Keep.alloc _ _ _
  have hz := k0.size
  have bx : W0.heap[w.heap.size]? = some (.cells #[.string pr, .slice aa args.length ca, .slice ab body.length cb] 28 (0, 0)) := by rw [← hW0]; exact new_block _ _
  have l0 := heap_lt bx
  have c0 := cells_of_block bx 0 _ rfl
  have c1 := cells_of_block bx 1 _ rfl
  have c2 := cells_of_block bx 2 _ rfl
  simp only [Nat.zero_add] at c0 c1 c2
  clear hb1 hb2 hb3 hh hb hr hl bx
  have Xh1 := Lib.hid h1
  have Xh2 := Lib.hid h2
  have Xh3 := Lib.hid h3
  have XhE := Lib.hid hE
  have XhW0 := Lib.hid hW0
  have Xk0 := Lib.hid k0
  clear h1 h2 h3 hE hW0 k0
  cases b1
  · go_enter Try.func37, Try.ntmps37
    go_wp2_with fail
    rw [XhW0.out]
    refine (Xh1.out _ Xk0.out).mono ?_
    rintro e W1 ⟨rfl, k1⟩
    go_wp2_with fail
    go_ret
    exact ⟨by rw [XhE.out]; rfl, Xk0.out.trans (k1.mono fun b hb _ => by omega)⟩
  · cases b2
    all_goals go_enter Try.func37, Try.ntmps37
    all_goals go_wp2_with fail
    all_goals rw [XhW0.out]
    all_goals refine (Xh1.out _ Xk0.out).mono ?_
    all_goals (rintro e W1 ⟨rfl, k1⟩; have e0 := k1.cell c0 l0; have e1 := k1.cell c1 l0; have e2 := k1.cell c2 l0; have z1 := k1.size; have kk : Keep (fun b => b < w.heap.size) w W1 := Xk0.out.trans (k1.mono fun b hb _ => (by omega)); have l1 : w.heap.size < W1.heap.size := (by omega); clear c0 c1 c2)
    all_goals (have Xkk := Lib.hid kk; have Xk1 := Lib.hid k1; clear kk k1)
    all_goals go_wp2_with fail
    all_goals refine (Xh2.out _ Xkk.out).mono ?_
    all_goals (rintro e W2 ⟨rfl, k2⟩; have f0 := k2.cell e0 l1; have f1 := k2.cell e1 l1; have f2 := k2.cell e2 l1; have z2 := k2.size; have kk2 : Keep (fun b => b < w.heap.size) w W2 := Xkk.out.trans (k2.mono fun b hb _ => (by omega)); have l2 : w.heap.size < W2.heap.size := (by omega); clear e0 e1 e2)
    all_goals (have Xkk2 := Lib.hid kk2; have Xk2 := Lib.hid k2; clear kk2 k2)
    · go_wp2_with fail
      go_ret
      exact ⟨by rw [XhE.out]; rfl, Xkk2.out⟩
    · cases b3
      all_goals go_wp2_with fail
      all_goals refine (Xh3.out _ Xkk2.out).mono ?_
      all_goals (rintro e W3 ⟨rfl, k3⟩)
      all_goals go_wp2_with fail
      all_goals go_ret
      all_goals exact ⟨by rw [XhE.out]; rfl, Xkk2.out.trans (k3.mono fun b hb _ => by omega)⟩

set_option maxRecDepth 100000 in
theorem refAsked_any (n : Nat) (r : RuleD) (hsm : smallR r) (sh sb : Value) (l : List SizeD) (sv : Value) (arg : Bool) (w : World) (hr : RuleIn n w sh sb r) (hl : SizesIn n w sv l) (hn : n ≤ w.heap.size) : Calls Try.prog 43 #[ruleV r sh sb, sv, .bool arg] w fun e w' => e = .returned (.int .i64 (askedD r l arg)) ∧ Keep (fun b => b < w.heap.size) w w' := by
  have h1 := fun W (hK : Keep (fun b => b < w.heap.size) w W) => refFormed_any n r hsm sh sb W (hr.keep (hK.mono fun b _ h => by omega)) (by have := hK.size; omega)
  have h2 := fun W (hK : Keep (fun b => b < w.heap.size) w W) => may_any n l sv W (hl.keep (hK.mono fun b _ h => by omega)) (by have := hK.size; omega)
  have h3 := fun (hF : formedB r = true) W (hK : Keep (fun b => b < w.heap.size) w W) => refSafe_any n r hF sh sb W (hr.keep (hK.mono fun b _ h => by omega)) (by have := hK.size; omega)
  have hE : askedD r l arg = if !formedB r || !usableB l || arg then 2 else if !safeP r then 14 else 0 := rfl
  obtain ⟨b1, hb1⟩ : ∃ b, formedB r = b := ⟨_, rfl⟩
  obtain ⟨b2, hb2⟩ : ∃ b, usableB l = b := ⟨_, rfl⟩
  obtain ⟨b3, hb3⟩ : ∃ b, safeP r = b := ⟨_, rfl⟩
  simp only [hb1] at h1 h3
  simp only [hb2] at h2
  simp only [hb3] at h3
  rw [hb1, hb2, hb3] at hE
  obtain ⟨asv, csv, rfl, -, -, -⟩ := id hl
  obtain ⟨⟨pr, args⟩, body⟩ := r
  obtain ⟨hh, hb⟩ := id hr
  unfold ruleV at h1 h3 ⊢
  simp only at hh hb h1 h3 hE ⊢
  obtain ⟨aa, ca, rfl, -, -, -⟩ := id hh
  obtain ⟨ab, cb, rfl, -, -, -⟩ := id hb
  obtain ⟨W0, hW0⟩ : ∃ W0, w.alloc (.cells #[.string pr, .slice aa args.length ca, .slice ab body.length cb] 28) = W0 := ⟨_, rfl⟩
  have k0 : Keep (fun b => b < w.heap.size) w W0 := by rw [← hW0]; exact Keep.alloc _ _ _
  have hz := k0.size
  have bx : W0.heap[w.heap.size]? = some (.cells #[.string pr, .slice aa args.length ca, .slice ab body.length cb] 28 (0, 0)) := by rw [← hW0]; exact new_block _ _
  have l0 := heap_lt bx
  have c0 := cells_of_block bx 0 _ rfl
  have c1 := cells_of_block bx 1 _ rfl
  have c2 := cells_of_block bx 2 _ rfl
  simp only [Nat.zero_add] at c0 c1 c2
  clear hb1 hb2 hb3 hh hb hr hl bx hsm
  have Xh1 := Lib.hid h1
  have Xh2 := Lib.hid h2
  have Xh3 := Lib.hid h3
  have XhE := Lib.hid hE
  have XhW0 := Lib.hid hW0
  have Xk0 := Lib.hid k0
  clear h1 h2 h3 hE hW0 k0
  cases b1
  · go_enter Try.func43, Try.ntmps43
    go_wp2_with fail
    rw [XhW0.out]
    refine (Xh1.out _ Xk0.out).mono ?_
    rintro e W1 ⟨rfl, k1⟩
    go_wp2_with fail
    go_ret
    exact ⟨by rw [XhE.out]; rfl, Xk0.out.trans (k1.mono fun b hb _ => by omega)⟩
  · cases b2
    all_goals go_enter Try.func43, Try.ntmps43
    all_goals go_wp2_with fail
    all_goals rw [XhW0.out]
    all_goals refine (Xh1.out _ Xk0.out).mono ?_
    all_goals (rintro e W1 ⟨rfl, k1⟩; have e0 := k1.cell c0 l0; have e1 := k1.cell c1 l0; have e2 := k1.cell c2 l0; have z1 := k1.size; have kk : Keep (fun b => b < w.heap.size) w W1 := Xk0.out.trans (k1.mono fun b hb _ => (by omega)); have l1 : w.heap.size < W1.heap.size := (by omega); clear c0 c1 c2)
    all_goals (have Xkk := Lib.hid kk; have Xk1 := Lib.hid k1; clear kk k1)
    all_goals go_wp2_with fail
    all_goals refine (Xh2.out _ Xkk.out).mono ?_
    all_goals (rintro e w9 ⟨rfl, hw9⟩; have hw9 := hw9.symm; subst hw9)
    · go_wp2_with fail
      go_ret
      exact ⟨by rw [XhE.out]; rfl, Xkk.out⟩
    · cases arg
      · cases b3
        all_goals go_wp2_with fail
        all_goals refine (Xh3.out (by trivial) _ Xkk.out).mono ?_
        all_goals (rintro e W3 ⟨rfl, k3⟩)
        all_goals go_wp2_with fail
        all_goals go_ret
        all_goals exact ⟨by rw [XhE.out]; rfl, Xkk.out.trans (k3.mono fun b hb _ => by omega)⟩
      · go_wp2_with fail
        go_ret
        exact ⟨by rw [XhE.out]; rfl, Xkk.out⟩
end Go.Proofs
