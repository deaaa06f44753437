/- Layer 16 (plan): the law PlanLeast. -/
import Derived.Test.YtichfebfcapnhaaProg
import Derived.Test.YtichfebfcapnhaaPqF
import Derived.Test.YtichfebfcapnhaaPqH
import Derived.Test.YtichfebfcapnhaaPpV
namespace Go.Proofs
open Go.RowKit Go.Ink Go.Flt
set_option linter.unusedVariables false
set_option linter.unusedSimpArgs false
attribute [local go_sem] Oper.semAt_some

theorem refTo_sized {r : RuleD} {l : List SizeD} (hF : formedB r = true) (hs : sizedR r) (os : List (List Int)) : ∀ best : BestD, (∀ b s, best = some (b, s) → sizedS s) → ∀ b s, os.foldl (tryO r.body l) best = some (b, s) → sizedS s := by
  induction os with
  | nil => intro best h; exact h
  | cons o os ih =>
    intro best h
    refine ih _ ?_
    unfold tryO
    split
    · exact h
    · rename_i ss hss
      intro b s e
      unfold updB at e
      cases best with
      | none => cases e; exact planned_sized hs hss hF
      | some p =>
        obtain ⟨b0, s0⟩ := p
        simp only at e
        split at e
        · cases e; exact planned_sized hs hss hF
        · cases e; exact h _ _ rfl
theorem least_parts {r : RuleD} {l : List SizeD} (hs : sizedR r) (hm : smallR r) : sizedR (leastD r l).1.rule ∧ sizedS (leastD r l).1.steps ∧ smallR (leastD r l).1.rule ∧ (leastD r l).2.1 ≤ 9218868437227405312 := by
  have hno : sizedR noPlan.rule ∧ sizedS noPlan.steps ∧ smallR noPlan.rule := ⟨⟨by decide, by decide, fun L hL => by simp [noPlan] at hL⟩, ⟨by decide, fun s hs => by simp [noPlan] at hs⟩, ⟨⟨by decide, fun t ht => by simp [noPlan] at ht⟩, fun L hL => by simp [noPlan] at hL⟩⟩
  rw [least_eq]
  unfold refLeastD
  by_cases ha : askedD r l (decide (6 < r.body.length)) ≠ 0
  · rw [if_pos ha]
    exact ⟨hno.1, hno.2.1, hno.2.2, Nat.zero_le _⟩
  · rw [if_neg ha]
    obtain ⟨hF, hU, h6, -⟩ := asked_parts (show askedD r l (decide (6 < r.body.length)) = 0 by omega)
    have h6 := of_decide_eq_false h6
    have hf : FineB (refB r l) := refTo_fine hU (by omega) _ none (fun _ _ h => by cases h)
    have hz := refTo_sized (l := l) hF hs (lvlO r.body.length r.body.length) none (fun _ _ h => by cases h)
    cases hc : refB r l with
    | none => exact ⟨hno.1, hno.2.1, hno.2.2, Nat.zero_le _⟩
    | some p =>
      obtain ⟨b, s⟩ := p
      exact ⟨hs, hz b s hc, hm, Nat.le_of_lt (hf b s hc)⟩

set_option maxRecDepth 100000 in
set_option maxHeartbeats 4000000 in
theorem lawPlanLeast_any (n : Nat) (r : RuleD) (hsm : smallR r) (sh sb : Value) (l : List SizeD) (sv : Value) (w : World) (hr : RuleIn n w sh sb r) (hl : SizesIn n w sv l) (hn : n ≤ w.heap.size) :
    Calls Try.prog 7 #[ruleV r sh sb, sv] w fun e w' => e = .returned (.bool true) ∧ Keep (fun b => b < w.heap.size) w w' := by
  have hsz := sized_of hr
  obtain ⟨hz1, hz2, hz3, hinf⟩ := least_parts (l := l) hsz hsm
  have hdl : ∀ s, s ∈ l → s.dist.length ≤ 1073741824 := by
    obtain ⟨_, _, _, _, _, hel⟩ := id hl
    intro s hs
    obtain ⟨k, hk⟩ := List.mem_iff_getElem?.1 hs
    obtain ⟨_, _, _, _, _, _, ⟨_, _, _, h, _⟩⟩ := hel k s hk
    exact h
  have ftwin := fun W (hK : Keep (fun b => b < w.heap.size) w W) => twin_any n r sh sb W (hr.keep (hK.mono fun b _ h => by omega)) (by have := hK.size; omega)
  have ftws := fun W (hK : Keep (fun b => b < w.heap.size) w W) => twinSizes_any n l sv W (hl.keep (hK.mono fun b _ h => by omega)) (by have := hK.size; omega)
  have frmk := fun W (hK : Keep (fun b => b < w.heap.size) w W) => refLeast_any n r hsm sh sb l sv W (hr.keep (hK.mono fun b _ h => by omega)) (hl.keep (hK.mono fun b _ h => by omega)) (by have := hK.size; omega)
  simp only [← least_eq] at frmk
  have hself : FloatKind.f64.format.order (leastD r l).2.1 (leastD r l).2.1 = some .eq := order_self hinf
  have hce : (FloatKind.f64.format.order (leastD r l).2.1 (leastD r l).2.1 == some .eq) = true := by rw [hself]; rfl
  obtain ⟨M, hM⟩ : ∃ M, leastD r l = M := ⟨_, rfl⟩
  have fmk := fun n' xh xb xv W (h1 : RuleIn n' W xh xb r) (h2 : SizesIn n' W xv l) (h3 : n' ≤ W.heap.size) => least_any n' r xh xb l xv W h1 h2 h3
  rw [hM] at hz1 hz2 hz3 hce
  simp only [hM] at frmk fmk
  obtain ⟨hh, hb⟩ := id hr
  obtain ⟨ah, ch, rfl, hla, -, -⟩ := id hh
  obtain ⟨ab, cb, rfl, hlb, -, -⟩ := id hb
  obtain ⟨asl, csl, rfl, hls, -, -⟩ := id hl
  obtain ⟨⟨pr, args⟩, body⟩ := r
  unfold ruleV at ftwin frmk fmk ⊢
  simp only at ftwin frmk fmk hla hlb ⊢
  obtain ⟨MP, mc, me⟩ := M
  simp only at hz1 hz2 hz3 hce frmk fmk
  unfold planV at frmk fmk
  obtain ⟨mp, hmp⟩ : ∃ mp, MP.rule.head.pred = mp := ⟨_, rfl⟩
  simp only [hmp] at frmk fmk
  obtain ⟨N, hN⟩ : ∃ N, w.heap.size = N := ⟨_, rfl⟩
  obtain ⟨W0, hW0⟩ : ∃ W0, w.alloc (.cells #[.string pr, .slice ah args.length ch, .slice ab body.length cb] 28) = W0 := ⟨_, rfl⟩
  have k0 : Keep (fun b => b < w.heap.size) w W0 := by rw [← hW0]; exact Keep.alloc _ _ _
  have z0 : W0.heap.size = w.heap.size + 1 := by rw [← hW0]; simp
  have q0 : W0.heap[w.heap.size]? = some (.cells #[.string pr, .slice ah args.length ch, .slice ab body.length cb] 28 (0, 0)) := by rw [← hW0]; exact new_block _ _
  have g1 := ftwin W0 k0
  rw [hN] at q0 z0
  have n0 := cells_of_block q0 0 _ rfl
  have n1 := cells_of_block q0 1 _ rfl
  have n2 := cells_of_block q0 2 _ rfl
  simp only [Nat.zero_add] at n0 n1 n2
  have hNl : N < W0.heap.size := by omega
  clear hh hb ftwin hself hinf
  have Xhr := Lib.hid hr
  have Xhl := Lib.hid hl
  have Xhsm := Lib.hid hsm
  have Xhz1 := Lib.hid hz1
  have Xhz2 := Lib.hid hz2
  have Xhz3 := Lib.hid hz3
  have Xftws := Lib.hid ftws
  have Xfrmk := Lib.hid frmk
  have Xfmk := Lib.hid fmk
  have XhM := Lib.hid hM
  have Xhmp := Lib.hid hmp
  have XhN := Lib.hid hN
  have XhW0 := Lib.hid hW0
  have Xk0 := Lib.hid k0
  have Xq0 := Lib.hid q0
  have Xg1 := Lib.hid g1
  have Xhdl := Lib.hid hdl
  have Xhsz := Lib.hid hsz
  clear hr hl hsm hz1 hz2 hz3 ftws frmk fmk hM hmp hN hW0 k0 q0 g1 hdl hsz
  go_enter Try.func7, Try.ntmps7
  go_wp2_with fail
  rw [XhW0.out, XhN.out]
  refine Xg1.out.mono ?_
  rintro e W1 ⟨vxh, vxb, rfl, ox, k1⟩
  obtain ⟨xh, xch, rfl⟩ := own_form ox.1
  obtain ⟨xb, xcb, rfl⟩ := ox.2.form
  simp only at ox
  have hs1 := k1.size
  have kw1 : Keep (fun b => b < w.heap.size) w W1 := Xk0.out.trans (k1.mono fun b _ h => by have := XhN.out; omega)
  have xin := ox.rule Xhsz.out
  have g2 := Xftws.out W1 kw1
  have Xk1 := Lib.hid k1
  have Xkw1 := Lib.hid kw1
  have Xxin := Lib.hid xin
  have Xg2 := Lib.hid g2
  have Xox := Lib.hid ox
  clear k1 kw1 xin g2 ox
  go_wp2_with fail
  refine Xg2.out.mono ?_
  rintro e W2 ⟨gm, cm, rfl, om, k2⟩
  have hs2 := k2.size
  have Xom := Lib.hid om
  have Xk2 := Lib.hid k2
  clear om k2
  go_upto_region 2 with fail
  obtain ⟨A, hA⟩ : ∃ A, W2.heap.size = A := ⟨_, rfl⟩
  obtain ⟨W3, hW3⟩ : ∃ W3, W2.alloc (.cells #[.string pr, .slice xh args.length xch, .slice xb body.length xcb] 28) = W3 := ⟨_, rfl⟩
  have k3 : Keep (fun _ => True) W2 W3 := by rw [← hW3]; exact Keep.alloc _ _ _
  have z3 : W3.heap.size = W2.heap.size + 1 := by rw [← hW3]; simp
  have q3 := new_block W2 (.cells #[.string pr, .slice xh args.length xch, .slice xb body.length xcb] 28)
  rw [hW3, hA] at q3
  rw [hW3, hA]
  have q03 := k3.heap (Xk2.out.heap (Xk1.out.heap Xq0.out hNl) (by omega)) trivial
  have xin3 : RuleIn W1.heap.size W3 (.slice xh args.length xch) (.slice xb body.length xcb) ⟨⟨pr, args⟩, body⟩ := (Xxin.out.keep Xk2.out).keep (k3.mono fun _ _ _ => trivial)
  have om3 := Xom.out.keepT k3 (fun _ _ _ _ _ _ => trivial)
  have kw3 : Keep (fun b => b < w.heap.size) w W3 := (Xkw1.out.trans (Xk2.out.mono fun b _ h => by have := XhN.out; omega)).trans (k3.mono fun _ _ _ => trivial)
  have g3 := Xfmk.out W3.heap.size (.slice xh args.length xch) (.slice xb body.length xcb) _ W3 (xin3.wider (by omega)) (om3.sizes hls Xhdl.out) (Nat.le_refl _)
  have a0 := cells_of_block q3 0 _ rfl
  have a1 := cells_of_block q3 1 _ rfl
  have a2 := cells_of_block q3 2 _ rfl
  simp only [Nat.zero_add] at a0 a1 a2
  have hAl : A < W3.heap.size := by omega
  obtain ⟨na, hna⟩ : ∃ na, MP.rule.head.args.length = na := ⟨_, rfl⟩
  obtain ⟨nb, hnb⟩ : ∃ na, MP.rule.body.length = na := ⟨_, rfl⟩
  obtain ⟨ns, hns⟩ : ∃ na, MP.steps.length = na := ⟨_, rfl⟩
  clear n0 n1 n2 hW3 hA
  have Xk3 := Lib.hid k3
  have Xq3 := Lib.hid q3
  have Xq03 := Lib.hid q03
  have Xxin3 := Lib.hid xin3
  have Xom3 := Lib.hid om3
  have Xkw3 := Lib.hid kw3
  have Xg3 := Lib.hid g3
  have Xhna := Lib.hid hna
  have Xhnb := Lib.hid hnb
  have Xhns := Lib.hid hns
  clear k3 q3 q03 xin3 om3 kw3 g3 hna hnb hns
  go_wp2_with fail
  refine Xg3.out.mono ?_
  rintro e W4 ⟨vph, vpb, vps, rfl, op, k4⟩
  have hs4 := k4.size
  obtain ⟨aph, cph, rfl⟩ := own_form op.1.1
  obtain ⟨apb, cpb, rfl⟩ := op.1.2.form
  obtain ⟨aps, cps, rfl⟩ := op.2.form
  rw [Xhna.out, Xhnb.out, Xhns.out] at op
  rw [Xhna.out, Xhnb.out, Xhns.out]
  clear a0 a1 a2
  have Xop := Lib.hid op
  have Xk4 := Lib.hid k4
  clear op k4
  go_upto_region 3 with fail
  obtain ⟨B, hB⟩ : ∃ B, W4.heap.size = B := ⟨_, rfl⟩
  obtain ⟨W5, hW5⟩ : ∃ W5, W4.alloc (.cells #[.string mp, .slice aph na cph, .slice apb nb cpb, .slice aps ns cps] 34) = W5 := ⟨_, rfl⟩
  have k5 : Keep (fun _ => True) W4 W5 := by rw [← hW5]; exact Keep.alloc _ _ _
  have z5 : W5.heap.size = W4.heap.size + 1 := by rw [← hW5]; simp
  have q5 := new_block W4 (.cells #[.string mp, .slice aph na cph, .slice apb nb cpb, .slice aps ns cps] 34)
  rw [hW5, hB] at q5
  rw [hW5, hB]
  have k35 : Keep (fun b => b < W3.heap.size) W3 W5 := Xk4.out.trans (k5.mono fun _ _ _ => trivial)
  have q05 := k35.heap Xq03.out (by omega)
  have q35 := k35.heap Xq3.out hAl
  have xin5 := Xxin3.out.keep (k35.mono fun b _ h => by omega)
  have om5 := Xom3.out.keepT k35 (fun b cs t _ h _ => heap_lt h)
  have op5 := Xop.out.keep k5 (fun _ _ _ => trivial)
  have kw5 : Keep (fun b => b < w.heap.size) w W5 := Xkw3.out.trans (k35.mono fun b _ h => by have := XhN.out; omega)
  have g7 := Xfrmk.out W5 kw5
  have n0 := cells_of_block q05 0 _ rfl
  have n1 := cells_of_block q05 1 _ rfl
  have n2 := cells_of_block q05 2 _ rfl
  simp only [Nat.zero_add] at n0 n1 n2
  have hNl5 : N < W5.heap.size := by omega
  have hAl5 : A < W5.heap.size := by omega
  clear hW5
  have XhB := Lib.hid hB
  have Xk5 := Lib.hid k5
  have Xq5 := Lib.hid q5
  have Xq05 := Lib.hid q05
  have Xq35 := Lib.hid q35
  have Xxin5 := Lib.hid xin5
  have Xom5 := Lib.hid om5
  have Xop5 := Lib.hid op5
  have Xkw5 := Lib.hid kw5
  have Xg7 := Lib.hid g7
  have Xk35 := Lib.hid k35
  clear hB k5 q5 q05 q35 xin5 om5 op5 kw5 g7 k35
  go_wp2_with fail
  refine Xg7.out.mono ?_
  rintro e W8 ⟨vqh, vqb, vqs, rfl, rq, oq, k8⟩
  have hs8 := k8.size
  obtain ⟨rq1, rq2⟩ := id rq
  obtain ⟨aqh, cqh, rfl, -, -, -⟩ := rq1
  obtain ⟨aqb, cqb, rfl, -, -, -⟩ := rq2
  obtain ⟨aqs, cqs, rfl⟩ := oq.form
  rw [Xhna.out, Xhnb.out] at rq
  rw [Xhns.out] at oq
  rw [Xhna.out, Xhnb.out, Xhns.out]
  clear n0 n1 n2
  have Xrq := Lib.hid rq
  have Xoq := Lib.hid oq
  have Xk8 := Lib.hid k8
  clear rq oq k8
  go_upto_region 4 with fail
  obtain ⟨E, hE⟩ : ∃ E, W8.heap.size = E := ⟨_, rfl⟩
  obtain ⟨Wb, hWb⟩ : ∃ Wb, W8.alloc (.cells #[.string mp, .slice aqh na cqh, .slice aqb nb cqb, .slice aqs ns cqs] 34) = Wb := ⟨_, rfl⟩
  have k9 : Keep (fun _ => True) W8 Wb := by rw [← hWb]; exact Keep.alloc _ _ _
  have z9 : Wb.heap.size = W8.heap.size + 1 := by rw [← hWb]; simp
  have q9 := new_block W8 (.cells #[.string mp, .slice aqh na cqh, .slice aqb nb cqb, .slice aqs ns cqs] 34)
  rw [hWb, hE] at q9
  rw [hWb, hE]
  have k79 : Keep (fun b => b < W5.heap.size) W5 Wb := Xk8.out.trans (k9.mono fun _ _ _ => trivial)
  have q09 := k79.heap Xq05.out hNl5
  have q39 := k79.heap Xq35.out hAl5
  have q59 := k79.heap Xq5.out (heap_lt Xq5.out)
  have xin9 := Xxin5.out.keep (k79.mono fun b _ h => by omega)
  have om9 := Xom5.out.keepT k79 (fun b cs t _ h _ => heap_lt h)
  have op9 := Xop5.out.keep k79 (fun b _ h => h)
  have rq9 := Xrq.out.keep (k9.mono fun _ _ _ => trivial)
  have oq9 := Xoq.out.keep k9 (fun _ _ _ _ _ _ => trivial)
  have kw9 : Keep (fun b => b < w.heap.size) w Wb := Xkw5.out.trans (k79.mono fun b _ h => by have := XhN.out; omega)
  have hB5 : B < W5.heap.size := heap_lt Xq5.out
  have hE9 : E < Wb.heap.size := heap_lt q9
  have hwb : w.heap.size ≤ Wb.heap.size := by have := XhN.out; omega
  have hcells : ∀ W, Keep (fun b => b < Wb.heap.size) Wb W → (W.cell? ⟨N, 0, none⟩ = some (.string pr) ∧ W.cell? ⟨N, 1, none⟩ = some (.slice ah args.length ch) ∧ W.cell? ⟨N, 2, none⟩ = some (.slice ab body.length cb) ∧ W.cell? ⟨A, 0, none⟩ = some (.string pr) ∧ W.cell? ⟨A, 1, none⟩ = some (.slice xh args.length xch) ∧ W.cell? ⟨A, 2, none⟩ = some (.slice xb body.length xcb) ∧ W.cell? ⟨B, 0, none⟩ = some (.string mp) ∧ W.cell? ⟨B, 1, none⟩ = some (.slice aph na cph) ∧ W.cell? ⟨B, 2, none⟩ = some (.slice apb nb cpb) ∧ W.cell? ⟨B, 3, none⟩ = some (.slice aps ns cps) ∧ W.cell? ⟨E, 0, none⟩ = some (.string mp) ∧ W.cell? ⟨E, 1, none⟩ = some (.slice aqh na cqh) ∧ W.cell? ⟨E, 2, none⟩ = some (.slice aqb nb cqb) ∧ W.cell? ⟨E, 3, none⟩ = some (.slice aqs ns cqs) ∧ N < W.heap.size ∧ A < W.heap.size ∧ B < W.heap.size ∧ E < W.heap.size) := by
    intro W hK
    have s1 := hK.heap q09 (show N < Wb.heap.size by omega)
    have s2 := hK.heap q39 (show A < Wb.heap.size by omega)
    have s3 := hK.heap q59 (show B < Wb.heap.size by omega)
    have s5 := hK.heap q9 (show E < Wb.heap.size by omega)
    have t0 := cells_of_block s1 0 _ rfl
    have t1 := cells_of_block s1 1 _ rfl
    have t2 := cells_of_block s1 2 _ rfl
    have t3 := cells_of_block s2 0 _ rfl
    have t4 := cells_of_block s2 1 _ rfl
    have t5 := cells_of_block s2 2 _ rfl
    have t6 := cells_of_block s3 0 _ rfl
    have t7 := cells_of_block s3 1 _ rfl
    have t8 := cells_of_block s3 2 _ rfl
    have t9 := cells_of_block s3 3 _ rfl
    have t14 := cells_of_block s5 0 _ rfl
    have t15 := cells_of_block s5 1 _ rfl
    have t16 := cells_of_block s5 2 _ rfl
    have t17 := cells_of_block s5 3 _ rfl
    simp only [Nat.zero_add] at t0 t1 t2 t3 t4 t5 t6 t7 t8 t9 t14 t15 t16 t17
    exact ⟨t0, t1, t2, t3, t4, t5, t6, t7, t8, t9, t14, t15, t16, t17, heap_lt s1, heap_lt s2, heap_lt s3, heap_lt s5⟩
  have hnb9 : n ≤ Wb.heap.size := by have := XhN.out; omega
  have plp : ∀ W, Keep (fun b => b < Wb.heap.size) Wb W → PlanIn W.heap.size W (.slice aph na cph) (.slice apb nb cpb) (.slice aps ns cps) MP := fun W hK => (op9.keep hK fun b _ h => h).plan Xhz1.out Xhz2.out
  have plq : ∀ W, Keep (fun b => b < Wb.heap.size) Wb W → PlanIn W.heap.size W (.slice aqh na cqh) (.slice aqb nb cqb) (.slice aqs ns cqs) MP := fun W hK => ⟨(rq9.keep (hK.mono fun b _ h => by omega)).wider (by have := hK.size; omega), (oq9.keep hK fun b cs t h1 h2 _ => heap_lt h2).steps Xhz2.out⟩
  have szl : ∀ W, Keep (fun b => b < Wb.heap.size) Wb W → SizesIn W.heap.size W (.slice asl l.length csl) l := fun W hK => SizesIn.wider (Xhl.out.keep ((kw9.mono fun b _ h => by have := XhN.out; omega).trans (hK.mono fun b _ h => by omega))) (by have := hK.size; omega)
  have szm : ∀ W, Keep (fun b => b < Wb.heap.size) Wb W → SizesMk W1.heap.size W (.slice (some ⟨gm, 0, none⟩) (l.length + 1) cm) l markC (l.length + 1) := fun W hK => om9.keepT hK (fun b cs t _ h _ => heap_lt h)
  have fs1 := fun W (hK : Keep (fun b => b < Wb.heap.size) Wb W) => lawSame_any W.heap.size MP _ _ _ _ _ _ W (plp W hK) (plq W hK) (Nat.le_refl _)
  have fr := fun W (hK : Keep (fun b => b < Wb.heap.size) Wb W) => sameRules_eq W.heap.size ⟨⟨pr, args⟩, body⟩ (.slice xh args.length xch) (.slice xb body.length xcb) (.slice ah args.length ch) (.slice ab body.length cb) W ((xin9.keep (hK.mono fun b _ h => by omega)).wider (by have := hK.size; omega))
    ((Xhr.out.keep ((kw9.mono fun b _ h => by have := XhN.out; omega).trans (hK.mono fun b _ h => by omega))).wider (by have := hK.size; omega)) (Nat.le_refl _)
  have fl := fun W (hK : Keep (fun b => b < Wb.heap.size) Wb W) => left_any W.heap.size W1.heap.size l _ gm cm W (szl W hK) (szm W hK) (Nat.le_refl _)
  unfold planV at fs1
  unfold ruleV at fr
  simp only [Xhmp.out] at fs1 fr
  have hmm2 : (me == me) = true := by simp
  obtain ⟨n0, n1, n2, a0, a1, a2, b0, b1, b2, b3, e0, e1, e2, e3, lN, lA, lB, lE⟩ := hcells Wb (Keep.refl _ _)
  have back : ∀ W, Keep (fun b => b < Wb.heap.size) Wb W → Keep (fun b => b < w.heap.size) w W := fun W hK => kw9.trans (hK.mono fun b _ h => by omega)
  have kq0 : Keep (fun b => b < Wb.heap.size) Wb Wb := Keep.refl _ _
  clear hWb q9 q09 q39 q59 xin9 om9 op9 rq9 oq9 kw9 k79 plp plq szl szm
  clear Xxin Xom Xk2 Xk1 Xk0 Xkw1 Xq0 Xk3 Xq3 Xq03 Xxin3 Xom3 Xkw3 Xg3 Xop Xk4 Xk5 Xq5 Xq05 Xq35 Xxin5 Xom5 Xop5 Xkw5 Xk35 Xg7 Xrq Xoq Xk8 Xftws Xfrmk Xfmk Xg1 Xg2 Xox
  have Xhcells := Lib.hid hcells
  have Xfs1 := Lib.hid fs1
  have Xfr := Lib.hid fr
  have Xfl := Lib.hid fl
  have XhE := Lib.hid hE
  have Xback := Lib.hid back
  have Xkq0 := Lib.hid kq0
  have Xk9 := Lib.hid k9
  clear hcells fs1 fr fl hE back kq0 k9
  go_wp2_with fail
  refine (lawNum_any me Wb).mono ?_
  rintro e w9 ⟨rfl, hw9⟩; have hw9 := hw9.symm; subst hw9
  go_wp2_with fail
  refine (Xfs1.out Wb Xkq0.out).mono ?_
  rintro e W10 ⟨rfl, hk⟩
  have kq1 : Keep (fun b => b < Wb.heap.size) Wb W10 := Xkq0.out.trans (hk.mono fun b _ h => by have := Xkq0.out.size; omega); clear n0 n1 n2 a0 a1 a2 b0 b1 b2 b3 e0 e1 e2 e3 lN lA lB lE hk; obtain ⟨n0, n1, n2, a0, a1, a2, b0, b1, b2, b3, e0, e1, e2, e3, lN, lA, lB, lE⟩ := Xhcells.out W10 kq1
  have Xkq1 := Lib.hid kq1
  clear kq1
  go_wp2_with fail
  refine (Xfl.out W10 Xkq1.out).mono ?_
  rintro e W12 ⟨rfl, hk⟩
  have kq3 : Keep (fun b => b < Wb.heap.size) Wb W12 := Xkq1.out.trans (hk.mono fun b _ h => by have := Xkq1.out.size; omega); clear n0 n1 n2 a0 a1 a2 b0 b1 b2 b3 e0 e1 e2 e3 lN lA lB lE hk; obtain ⟨n0, n1, n2, a0, a1, a2, b0, b1, b2, b3, e0, e1, e2, e3, lN, lA, lB, lE⟩ := Xhcells.out W12 kq3
  have Xkq3 := Lib.hid kq3
  clear kq3
  go_wp2_with fail
  refine (Xfr.out W12 Xkq3.out).mono ?_
  rintro e W13 ⟨rfl, hk⟩
  have kq4 : Keep (fun b => b < Wb.heap.size) Wb W13 := Xkq3.out.trans (hk.mono fun b _ h => by have := Xkq3.out.size; omega); clear n0 n1 n2 a0 a1 a2 b0 b1 b2 b3 e0 e1 e2 e3 lN lA lB lE hk; obtain ⟨n0, n1, n2, a0, a1, a2, b0, b1, b2, b3, e0, e1, e2, e3, lN, lA, lB, lE⟩ := Xhcells.out W13 kq4
  have Xkq4 := Lib.hid kq4
  clear kq4
  go_wp2_with fail
  refine (known_any W13).mono ?_
  rintro e W24 ⟨rfl, hk⟩
  have kend : Keep (fun b => b < w.heap.size) w W24 := (Xback.out _ Xkq4.out).trans (hk.mono fun b _ h => by have := (Xback.out _ Xkq4.out).size; omega)
  clear hk
  have Xkend := Lib.hid kend
  clear kend
  go_wp2_with fail
  go_ret
  exact ⟨rfl, Xkend.out⟩
end Go.Proofs
