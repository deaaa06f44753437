/- Layer 16 (plan): the law PlanMakes. -/
import Derived.Test.YtichfebfcapnhaaProg
import Derived.Test.YtichfebfcapnhaaPpO
import Derived.Test.YtichfebfcapnhaaPpP
import Derived.Test.YtichfebfcapnhaaPpQ
import Derived.Test.YtichfebfcapnhaaPpRToPpS
import Derived.Test.YtichfebfcapnhaaPpTToPpU
import Derived.Test.YtichfebfcapnhaaPpM
namespace Go.Proofs
open Go.RowKit Go.Ink Go.Flt
set_option linter.unusedVariables false
set_option linter.unusedSimpArgs false
attribute [local go_sem] Oper.semAt_some

theorem mk_steps_sized {r : RuleD} (hs : sizedR r) {l : List SizeD} {first : Int} (j : Nat) : ∀ x, x ∈ (mkGo r l first j).steps → x.bound.length ≤ 1073741824 ∧ x.new.length ≤ 1073741824 := by
  induction j with
  | zero => intro x hx; simp [mkGo] at hx
  | succ j ih =>
    intro x hx
    change x ∈ (stepM r l _ (mkGo r l first j)).steps at hx
    unfold stepM at hx
    simp only at hx
    rcases List.mem_append.1 hx with hx | hx
    · exact ih x hx
    · simp only [List.mem_singleton] at hx
      subst hx
      have hlen : ∀ k, (r.body.getD k default).atom.args.length ≤ 1073741824 := fun k => by
        rw [List.getD_eq_getElem?_getD]
        cases hk : r.body[k]? with
        | none => simp only [Option.getD_none]; decide
        | some L => exact hs.2.2 L (List.mem_of_getElem? hk)
      have h1 := step_len (mkGo r l first j).K (r.body.getD (chooseM r l first j (mkGo r l first j)).toNat default) (chooseM r l first j (mkGo r l first j))
      have h2 := hlen (chooseM r l first j (mkGo r l first j)).toNat
      omega
theorem make_sized {r : RuleD} (hs : sizedR r) (l : List SizeD) (first : Int) : sizedR (makeD r l first).1.rule ∧ sizedS (makeD r l first).1.steps := by
  unfold makeD
  split
  · exact ⟨(show sizedR noPlan.rule from ⟨by decide, by decide, fun L hL => by simp [noPlan] at hL⟩), (show sizedS noPlan.steps from ⟨by decide, fun s hs => by simp [noPlan] at hs⟩)⟩
  · refine ⟨hs, ?_, mk_steps_sized hs _⟩
    have : ∀ j, (mkGo r l first j).steps.length = j := by
      intro j
      induction j with
      | zero => rfl
      | succ j ih =>
        change (stepM r l _ (mkGo r l first j)).steps.length = _
        unfold stepM
        simp only [List.length_append, List.length_singleton, ih]
    rw [this]
    exact hs.2.1
theorem make_small {r : RuleD} (hs : smallR r) (l : List SizeD) (first : Int) : smallR (makeD r l first).1.rule := by
  unfold makeD
  split
  · exact (show smallR noPlan.rule from ⟨⟨by decide, fun t ht => by simp [noPlan] at ht⟩, fun L hL => by simp [noPlan] at hL⟩)
  · exact hs
theorem PlanOwn.plan {base : Nat} {w : World} {vh vb vs : Value} {p : PlanD} (h : PlanOwn base w vh vb vs p) (h1 : sizedR p.rule) (h2 : sizedS p.steps) : PlanIn w.heap.size w vh vb vs p := ⟨h.1.rule h1, h.2.steps h2⟩
theorem PlanOwn.keep {base : Nat} {w w' : World} {vh vb vs : Value} {p : PlanD} {C : Nat → Prop} (h : PlanOwn base w vh vb vs p) (hK : Keep C w w') (hC : ∀ b, base ≤ b → b < w.heap.size → C b) : PlanOwn base w' vh vb vs p :=
  ⟨h.1.keep hK hC, h.2.keep hK fun b cs t h1 h2 _ => hC b h1 (heap_lt h2)⟩

set_option maxRecDepth 100000 in
set_option maxHeartbeats 4000000 in
theorem lawPlanMakes_any (n : Nat) (r : RuleD) (hsm : smallR r) (sh sb : Value) (l : List SizeD) (sv : Value) (first : Int) (w : World) (hr : RuleIn n w sh sb r) (hl : SizesIn n w sv l) (hn : n ≤ w.heap.size) :
    Calls Try.prog 4 #[ruleV r sh sb, sv, .int .i64 first] w fun e w' => e = .returned (.bool true) ∧ Keep (fun b => b < w.heap.size) w w' := by
  have hsz := sized_of hr
  obtain ⟨hz1, hz2⟩ := make_sized hsz l first
  have hz3 := make_small hsm l first
  have hdl : ∀ s, s ∈ l → s.dist.length ≤ 1073741824 := by
    obtain ⟨_, _, _, _, _, hel⟩ := id hl
    intro s hs
    obtain ⟨k, hk⟩ := List.mem_iff_getElem?.1 hs
    obtain ⟨_, _, _, _, _, _, ⟨_, _, _, h, _⟩⟩ := hel k s hk
    exact h
  have ftwin := fun W (hK : Keep (fun b => b < w.heap.size) w W) => twin_any n r sh sb W (hr.keep (hK.mono fun b _ h => by omega)) (by have := hK.size; omega)
  have ftws := fun W (hK : Keep (fun b => b < w.heap.size) w W) => twinSizes_any n l sv W (hl.keep (hK.mono fun b _ h => by omega)) (by have := hK.size; omega)
  have frmk := fun W (hK : Keep (fun b => b < w.heap.size) w W) => refMake_any n r hsm sh sb l sv first W (hr.keep (hK.mono fun b _ h => by omega)) (hl.keep (hK.mono fun b _ h => by omega)) (by have := hK.size; omega)
  have hself : FloatKind.f64.format.order (costD (makeD r l first).1 l) (costD (makeD r l first).1 l) = some .eq := order_self (costD_inf _ _)
  have hce : (FloatKind.f64.format.order (costD (makeD r l first).1 l) (costD (makeD r l first).1 l) != some .eq) = false := by rw [hself]; rfl
  obtain ⟨M, hM⟩ : ∃ M, makeD r l first = M := ⟨_, rfl⟩
  have fmk := fun n' xh xb xv W (h1 : RuleIn n' W xh xb r) (h2 : SizesIn n' W xv l) (h3 : n' ≤ W.heap.size) => make_any n' r xh xb l xv first W h1 h2 h3
  rw [hM] at hz1 hz2 hz3 hce
  simp only [hM] at frmk fmk
  obtain ⟨hh, hb⟩ := id hr
  obtain ⟨ah, ch, rfl, hla, -, -⟩ := id hh
  obtain ⟨ab, cb, rfl, hlb, -, -⟩ := id hb
  obtain ⟨asl, csl, rfl, hls, -, -⟩ := id hl
  obtain ⟨⟨pr, args⟩, body⟩ := r
  unfold ruleV at ftwin frmk fmk ⊢
  simp only at ftwin frmk fmk hla hlb ⊢
  obtain ⟨MP, me⟩ := M
  simp only at hz1 hz2 hz3 hce
  unfold planV at frmk fmk
  obtain ⟨mp, hmp⟩ : ∃ mp, MP.rule.head.pred = mp := ⟨_, rfl⟩
  simp only [hmp] at frmk fmk
  obtain ⟨N, hN⟩ : ∃ N, w.heap.size = N := ⟨_, rfl⟩
  obtain ⟨W0, hW0⟩ : ∃ W0, w.alloc (.cells #[.string pr, .slice ah args.length ch, .slice ab body.length cb] 28) = W0 := ⟨_, rfl⟩
  have k0 : Keep (fun b => b < w.heap.size) w W0 := by rw [← hW0]; exact Keep.alloc _ _ _
  have z0 : W0.heap.size = w.heap.size + 1 := by rw [← hW0]; simp
  have q0 : W0.heap[w.heap.size]? = some (.cells #[.string pr, .slice ah args.length ch, .slice ab body.length cb] 28 (0, 0)) := by rw [← hW0]; exact new_block _ _
  have g1 := ftwin W0 k0
  rw [hN] at q0 z0
  have n0 := cells_of_block q0 0 _ rfl
  have n1 := cells_of_block q0 1 _ rfl
  have n2 := cells_of_block q0 2 _ rfl
  simp only [Nat.zero_add] at n0 n1 n2
  have hNl : N < W0.heap.size := by omega
  clear hh hb ftwin hself
  have Xhr := Lib.hid hr
  have Xhl := Lib.hid hl
  have Xhsm := Lib.hid hsm
  have Xhz1 := Lib.hid hz1
  have Xhz2 := Lib.hid hz2
  have Xhz3 := Lib.hid hz3
  have Xftws := Lib.hid ftws
  have Xfrmk := Lib.hid frmk
  have Xfmk := Lib.hid fmk
  have XhM := Lib.hid hM
  have Xhmp := Lib.hid hmp
  have XhN := Lib.hid hN
  have XhW0 := Lib.hid hW0
  have Xk0 := Lib.hid k0
  have Xq0 := Lib.hid q0
  have Xg1 := Lib.hid g1
  have Xhdl := Lib.hid hdl
  have Xhsz := Lib.hid hsz
  clear hr hl hsm hz1 hz2 hz3 ftws frmk fmk hM hmp hN hW0 k0 q0 g1 hdl hsz
  go_enter Try.func4, Try.ntmps4
  go_wp2_with fail
  rw [XhW0.out, XhN.out]
  refine Xg1.out.mono ?_
  rintro e W1 ⟨vxh, vxb, rfl, ox, k1⟩
  obtain ⟨xh, xch, rfl⟩ := own_form ox.1
  obtain ⟨xb, xcb, rfl⟩ := ox.2.form
  simp only at ox
  have hs1 := k1.size
  have kw1 : Keep (fun b => b < w.heap.size) w W1 := Xk0.out.trans (k1.mono fun b _ h => by have := XhN.out; omega)
  have xin := ox.rule Xhsz.out
  have g2 := Xftws.out W1 kw1
  have Xk1 := Lib.hid k1
  have Xkw1 := Lib.hid kw1
  have Xxin := Lib.hid xin
  have Xg2 := Lib.hid g2
  have Xox := Lib.hid ox
  clear k1 kw1 xin g2 ox
  go_wp2_with fail
  refine Xg2.out.mono ?_
  rintro e W2 ⟨gm, cm, rfl, om, k2⟩
  have hs2 := k2.size
  have Xom := Lib.hid om
  have Xk2 := Lib.hid k2
  clear om k2
  go_upto_region 2 with fail
  obtain ⟨A, hA⟩ : ∃ A, W2.heap.size = A := ⟨_, rfl⟩
  obtain ⟨W3, hW3⟩ : ∃ W3, W2.alloc (.cells #[.string pr, .slice xh args.length xch, .slice xb body.length xcb] 28) = W3 := ⟨_, rfl⟩
  have k3 : Keep (fun _ => True) W2 W3 := by rw [← hW3]; exact Keep.alloc _ _ _
  have z3 : W3.heap.size = W2.heap.size + 1 := by rw [← hW3]; simp
  have q3 := new_block W2 (.cells #[.string pr, .slice xh args.length xch, .slice xb body.length xcb] 28)
  rw [hW3, hA] at q3
  rw [hW3, hA]
  have q03 := k3.heap (Xk2.out.heap (Xk1.out.heap Xq0.out hNl) (by omega)) trivial
  have xin3 : RuleIn W1.heap.size W3 (.slice xh args.length xch) (.slice xb body.length xcb) ⟨⟨pr, args⟩, body⟩ := (Xxin.out.keep Xk2.out).keep (k3.mono fun _ _ _ => trivial)
  have om3 := Xom.out.keepT k3 (fun _ _ _ _ _ _ => trivial)
  have kw3 : Keep (fun b => b < w.heap.size) w W3 := (Xkw1.out.trans (Xk2.out.mono fun b _ h => by have := XhN.out; omega)).trans (k3.mono fun _ _ _ => trivial)
  have g3 := Xfmk.out W3.heap.size (.slice xh args.length xch) (.slice xb body.length xcb) _ W3 (xin3.wider (by omega)) (om3.sizes hls Xhdl.out) (Nat.le_refl _)
  have a0 := cells_of_block q3 0 _ rfl
  have a1 := cells_of_block q3 1 _ rfl
  have a2 := cells_of_block q3 2 _ rfl
  simp only [Nat.zero_add] at a0 a1 a2
  have hAl : A < W3.heap.size := by omega
  obtain ⟨na, hna⟩ : ∃ na, MP.rule.head.args.length = na := ⟨_, rfl⟩
  obtain ⟨nb, hnb⟩ : ∃ na, MP.rule.body.length = na := ⟨_, rfl⟩
  obtain ⟨ns, hns⟩ : ∃ na, MP.steps.length = na := ⟨_, rfl⟩
  clear n0 n1 n2 hW3 hA
  have Xk3 := Lib.hid k3
  have Xq3 := Lib.hid q3
  have Xq03 := Lib.hid q03
  have Xxin3 := Lib.hid xin3
  have Xom3 := Lib.hid om3
  have Xkw3 := Lib.hid kw3
  have Xg3 := Lib.hid g3
  have Xhna := Lib.hid hna
  have Xhnb := Lib.hid hnb
  have Xhns := Lib.hid hns
  clear k3 q3 q03 xin3 om3 kw3 g3 hna hnb hns
  go_wp2_with fail
  refine Xg3.out.mono ?_
  rintro e W4 ⟨vph, vpb, vps, rfl, op, k4⟩
  have hs4 := k4.size
  obtain ⟨aph, cph, rfl⟩ := own_form op.1.1
  obtain ⟨apb, cpb, rfl⟩ := op.1.2.form
  obtain ⟨aps, cps, rfl⟩ := op.2.form
  rw [Xhna.out, Xhnb.out, Xhns.out] at op
  rw [Xhna.out, Xhnb.out, Xhns.out]
  clear a0 a1 a2
  have Xop := Lib.hid op
  have Xk4 := Lib.hid k4
  clear op k4
  go_upto_region 3 with fail
  obtain ⟨B, hB⟩ : ∃ B, W4.heap.size = B := ⟨_, rfl⟩
  obtain ⟨W5, hW5⟩ : ∃ W5, W4.alloc (.cells #[.string mp, .slice aph na cph, .slice apb nb cpb, .slice aps ns cps] 34) = W5 := ⟨_, rfl⟩
  have k5 : Keep (fun _ => True) W4 W5 := by rw [← hW5]; exact Keep.alloc _ _ _
  have z5 : W5.heap.size = W4.heap.size + 1 := by rw [← hW5]; simp
  have q5 := new_block W4 (.cells #[.string mp, .slice aph na cph, .slice apb nb cpb, .slice aps ns cps] 34)
  rw [hW5, hB] at q5
  rw [hW5, hB]
  have k35 : Keep (fun b => b < W3.heap.size) W3 W5 := Xk4.out.trans (k5.mono fun _ _ _ => trivial)
  have q05 := k35.heap Xq03.out (by omega)
  have q35 := k35.heap Xq3.out hAl
  have xin5 := Xxin3.out.keep (k35.mono fun b _ h => by omega)
  have om5 := Xom3.out.keepT k35 (fun b cs t _ h _ => heap_lt h)
  have op5 := Xop.out.keep k5 (fun _ _ _ => trivial)
  have kw5 : Keep (fun b => b < w.heap.size) w W5 := Xkw3.out.trans (k35.mono fun b _ h => by have := XhN.out; omega)
  have g5 := Xfmk.out W5.heap.size (.slice xh args.length xch) (.slice xb body.length xcb) _ W5 (xin5.wider (by omega)) (om5.sizes hls Xhdl.out) (Nat.le_refl _)
  have a0 := cells_of_block q35 0 _ rfl
  have a1 := cells_of_block q35 1 _ rfl
  have a2 := cells_of_block q35 2 _ rfl
  simp only [Nat.zero_add] at a0 a1 a2
  have hAl5 : A < W5.heap.size := by omega
  clear hW5
  have XhB := Lib.hid hB
  have Xk5 := Lib.hid k5
  have Xq5 := Lib.hid q5
  have Xq05 := Lib.hid q05
  have Xq35 := Lib.hid q35
  have Xxin5 := Lib.hid xin5
  have Xom5 := Lib.hid om5
  have Xop5 := Lib.hid op5
  have Xkw5 := Lib.hid kw5
  have Xg5 := Lib.hid g5
  have Xk35 := Lib.hid k35
  clear hB k5 q5 q05 q35 xin5 om5 op5 kw5 g5 k35
  go_wp2_with fail
  refine Xg5.out.mono ?_
  rintro e W6 ⟨vth, vtb, vts, rfl, ot, k6⟩
  have hs6 := k6.size
  obtain ⟨ath, cth, rfl⟩ := own_form ot.1.1
  obtain ⟨atb, ctb, rfl⟩ := ot.1.2.form
  obtain ⟨ats, cts, rfl⟩ := ot.2.form
  rw [Xhna.out, Xhnb.out, Xhns.out] at ot
  rw [Xhna.out, Xhnb.out, Xhns.out]
  clear a0 a1 a2
  have Xot := Lib.hid ot
  have Xk6 := Lib.hid k6
  clear ot k6
  go_upto_region 4 with fail
  obtain ⟨C, hC⟩ : ∃ C, W6.heap.size = C := ⟨_, rfl⟩
  obtain ⟨W7, hW7⟩ : ∃ W7, W6.alloc (.cells #[.string mp, .slice ath na cth, .slice atb nb ctb, .slice ats ns cts] 34) = W7 := ⟨_, rfl⟩
  have k7 : Keep (fun _ => True) W6 W7 := by rw [← hW7]; exact Keep.alloc _ _ _
  have z7 : W7.heap.size = W6.heap.size + 1 := by rw [← hW7]; simp
  have q7 := new_block W6 (.cells #[.string mp, .slice ath na cth, .slice atb nb ctb, .slice ats ns cts] 34)
  rw [hW7, hC] at q7
  rw [hW7, hC]
  have k57 : Keep (fun b => b < W5.heap.size) W5 W7 := Xk6.out.trans (k7.mono fun _ _ _ => trivial)
  have q07 := k57.heap Xq05.out (by omega)
  have q37 := k57.heap Xq35.out hAl5
  have q57 := k57.heap Xq5.out (heap_lt Xq5.out)
  have xin7 := Xxin5.out.keep (k57.mono fun b _ h => by omega)
  have om7 := Xom5.out.keepT k57 (fun b cs t _ h _ => heap_lt h)
  have op7 := Xop5.out.keep k57 (fun b _ h => h)
  have ot7 := Xot.out.keep k7 (fun _ _ _ => trivial)
  have kw7 : Keep (fun b => b < w.heap.size) w W7 := Xkw5.out.trans (k57.mono fun b _ h => by have := XhN.out; omega)
  have g7 := Xfrmk.out W7 kw7
  have n0 := cells_of_block q07 0 _ rfl
  have n1 := cells_of_block q07 1 _ rfl
  have n2 := cells_of_block q07 2 _ rfl
  simp only [Nat.zero_add] at n0 n1 n2
  have hNl7 : N < W7.heap.size := by omega
  clear hW7
  have XhC := Lib.hid hC
  have Xk7 := Lib.hid k7
  have Xq7 := Lib.hid q7
  have Xq07 := Lib.hid q07
  have Xq37 := Lib.hid q37
  have Xq57 := Lib.hid q57
  have Xxin7 := Lib.hid xin7
  have Xom7 := Lib.hid om7
  have Xop7 := Lib.hid op7
  have Xot7 := Lib.hid ot7
  have Xkw7 := Lib.hid kw7
  have Xg7 := Lib.hid g7
  have Xk57 := Lib.hid k57
  clear hC k7 q7 q07 q37 q57 xin7 om7 op7 ot7 kw7 g7 k57
  go_wp2_with fail
  refine Xg7.out.mono ?_
  rintro e W8 ⟨vqh, vqb, vqs, rfl, rq, oq, k8⟩
  have hs8 := k8.size
  obtain ⟨rq1, rq2⟩ := id rq
  obtain ⟨aqh, cqh, rfl, -, -, -⟩ := rq1
  obtain ⟨aqb, cqb, rfl, -, -, -⟩ := rq2
  obtain ⟨aqs, cqs, rfl⟩ := oq.form
  rw [Xhna.out, Xhnb.out] at rq
  rw [Xhns.out] at oq
  rw [Xhna.out, Xhnb.out, Xhns.out]
  clear n0 n1 n2
  have Xrq := Lib.hid rq
  have Xoq := Lib.hid oq
  have Xk8 := Lib.hid k8
  clear rq oq k8
  go_upto_region 5 with fail
  obtain ⟨E, hE⟩ : ∃ E, W8.heap.size = E := ⟨_, rfl⟩
  obtain ⟨Wb, hWb⟩ : ∃ Wb, W8.alloc (.cells #[.string mp, .slice aqh na cqh, .slice aqb nb cqb, .slice aqs ns cqs] 34) = Wb := ⟨_, rfl⟩
  have k9 : Keep (fun _ => True) W8 Wb := by rw [← hWb]; exact Keep.alloc _ _ _
  have z9 : Wb.heap.size = W8.heap.size + 1 := by rw [← hWb]; simp
  have q9 := new_block W8 (.cells #[.string mp, .slice aqh na cqh, .slice aqb nb cqb, .slice aqs ns cqs] 34)
  rw [hWb, hE] at q9
  rw [hWb, hE]
  have k79 : Keep (fun b => b < W7.heap.size) W7 Wb := Xk8.out.trans (k9.mono fun _ _ _ => trivial)
  obtain ⟨lo, hlo⟩ : ∃ lo, W3.heap.size = lo := ⟨_, rfl⟩
  obtain ⟨hi, hhi⟩ : ∃ hi, W4.heap.size = hi := ⟨_, rfl⟩
  have q09 := k79.heap Xq07.out hNl7
  have q39 := k79.heap Xq37.out (by omega)
  have q59 := k79.heap Xq57.out (heap_lt Xq57.out)
  have q79 := k79.heap Xq7.out (heap_lt Xq7.out)
  have xin9 := Xxin7.out.keep (k79.mono fun b _ h => by omega)
  have om9 := Xom7.out.keepT k79 (fun b cs t _ h _ => heap_lt h)
  have op9 := Xop7.out.keep k79 (fun b _ h => h)
  have ot9 := Xot7.out.keep k79 (fun b _ h => h)
  have rq9 := Xrq.out.keep (k9.mono fun _ _ _ => trivial)
  have oq9 := Xoq.out.keep k9 (fun _ _ _ _ _ _ => trivial)
  have kw9 : Keep (fun b => b < w.heap.size) w Wb := Xkw7.out.trans (k79.mono fun b _ h => by have := XhN.out; omega)
  have hB5 : B < W5.heap.size := heap_lt Xq5.out
  have hC7 : C < W7.heap.size := heap_lt Xq7.out
  have hE9 : E < Wb.heap.size := heap_lt q9
  have hBhi : hi ≤ B := by have := XhB.out; omega
  have hCB : B < C := by have := XhC.out; omega
  have hEC : C < E := by omega
  have hAlo : A < lo := by omega
  have hNA : N < lo := by omega
  have hlohi : lo ≤ hi := by omega
  have hw1lo : W1.heap.size ≤ lo := by omega
  have hnlo : n ≤ lo := by have := XhN.out; omega
  have hwlo : w.heap.size ≤ lo := by have := XhN.out; omega
  have hcells : ∀ W, Keep (fun b => (b < lo ∨ hi ≤ b) ∧ b < Wb.heap.size) Wb W → (W.cell? ⟨N, 0, none⟩ = some (.string pr) ∧ W.cell? ⟨N, 1, none⟩ = some (.slice ah args.length ch) ∧ W.cell? ⟨N, 2, none⟩ = some (.slice ab body.length cb) ∧ W.cell? ⟨A, 0, none⟩ = some (.string pr) ∧ W.cell? ⟨A, 1, none⟩ = some (.slice xh args.length xch) ∧ W.cell? ⟨A, 2, none⟩ = some (.slice xb body.length xcb) ∧ W.cell? ⟨B, 0, none⟩ = some (.string mp) ∧ W.cell? ⟨B, 1, none⟩ = some (.slice aph na cph) ∧ W.cell? ⟨B, 2, none⟩ = some (.slice apb nb cpb) ∧ W.cell? ⟨B, 3, none⟩ = some (.slice aps ns cps) ∧ W.cell? ⟨C, 0, none⟩ = some (.string mp) ∧ W.cell? ⟨C, 1, none⟩ = some (.slice ath na cth) ∧ W.cell? ⟨C, 2, none⟩ = some (.slice atb nb ctb) ∧ W.cell? ⟨C, 3, none⟩ = some (.slice ats ns cts) ∧ W.cell? ⟨E, 0, none⟩ = some (.string mp) ∧ W.cell? ⟨E, 1, none⟩ = some (.slice aqh na cqh) ∧ W.cell? ⟨E, 2, none⟩ = some (.slice aqb nb cqb) ∧ W.cell? ⟨E, 3, none⟩ = some (.slice aqs ns cqs) ∧ N < W.heap.size ∧ A < W.heap.size ∧ B < W.heap.size ∧ C < W.heap.size ∧ E < W.heap.size) := by
    intro W hK
    have s1 := hK.heap q09 (show (N < lo ∨ hi ≤ N) ∧ N < Wb.heap.size from ⟨.inl hNA, by omega⟩)
    have s2 := hK.heap q39 (show (A < lo ∨ hi ≤ A) ∧ A < Wb.heap.size from ⟨.inl hAlo, by omega⟩)
    have s3 := hK.heap q59 (show (B < lo ∨ hi ≤ B) ∧ B < Wb.heap.size from ⟨.inr hBhi, by omega⟩)
    have s4 := hK.heap q79 (show (C < lo ∨ hi ≤ C) ∧ C < Wb.heap.size from ⟨.inr (by omega), by omega⟩)
    have s5 := hK.heap q9 (show (E < lo ∨ hi ≤ E) ∧ E < Wb.heap.size from ⟨.inr (by omega), by omega⟩)
    have t0 := cells_of_block s1 0 _ rfl
    have t1 := cells_of_block s1 1 _ rfl
    have t2 := cells_of_block s1 2 _ rfl
    have t3 := cells_of_block s2 0 _ rfl
    have t4 := cells_of_block s2 1 _ rfl
    have t5 := cells_of_block s2 2 _ rfl
    have t6 := cells_of_block s3 0 _ rfl
    have t7 := cells_of_block s3 1 _ rfl
    have t8 := cells_of_block s3 2 _ rfl
    have t9 := cells_of_block s3 3 _ rfl
    have t10 := cells_of_block s4 0 _ rfl
    have t11 := cells_of_block s4 1 _ rfl
    have t12 := cells_of_block s4 2 _ rfl
    have t13 := cells_of_block s4 3 _ rfl
    have t14 := cells_of_block s5 0 _ rfl
    have t15 := cells_of_block s5 1 _ rfl
    have t16 := cells_of_block s5 2 _ rfl
    have t17 := cells_of_block s5 3 _ rfl
    simp only [Nat.zero_add] at t0 t1 t2 t3 t4 t5 t6 t7 t8 t9 t10 t11 t12 t13 t14 t15 t16 t17
    exact ⟨t0, t1, t2, t3, t4, t5, t6, t7, t8, t9, t10, t11, t12, t13, t14, t15, t16, t17, heap_lt s1, heap_lt s2, heap_lt s3, heap_lt s4, heap_lt s5⟩
  have to2 : ∀ W, Keep (fun b => b < Wb.heap.size) Wb W → Keep (fun b => (b < lo ∨ hi ≤ b) ∧ b < Wb.heap.size) Wb W := fun W hK => hK.mono fun b _ h => h.2
  have plp : ∀ W, Keep (fun b => b < Wb.heap.size) Wb W → PlanIn W.heap.size W (.slice aph na cph) (.slice apb nb cpb) (.slice aps ns cps) MP := fun W hK => (op9.keep hK fun b _ h => h).plan Xhz1.out Xhz2.out
  have plt : ∀ W, Keep (fun b => (b < lo ∨ hi ≤ b) ∧ b < Wb.heap.size) Wb W → PlanIn W.heap.size W (.slice ath na cth) (.slice atb nb ctb) (.slice ats ns cts) MP := fun W hK => (ot9.keep hK fun b h1 h2 => ⟨.inr (by omega), h2⟩).plan Xhz1.out Xhz2.out
  have plq : ∀ W, Keep (fun b => (b < lo ∨ hi ≤ b) ∧ b < Wb.heap.size) Wb W → PlanIn W.heap.size W (.slice aqh na cqh) (.slice aqb nb cqb) (.slice aqs ns cqs) MP := fun W hK => ⟨(rq9.keep (hK.mono fun b _ h => ⟨.inl (by omega), by omega⟩)).wider (by have := hK.size; omega), (oq9.keep hK fun b cs t h1 h2 _ => ⟨.inr (by omega), heap_lt h2⟩).steps Xhz2.out⟩
  have szl : ∀ W, Keep (fun b => (b < lo ∨ hi ≤ b) ∧ b < Wb.heap.size) Wb W → SizesIn W.heap.size W (.slice asl l.length csl) l := fun W hK => SizesIn.wider (Xhl.out.keep ((kw9.mono fun b _ h => by omega).trans (hK.mono fun b _ h => ⟨.inl (by omega), by omega⟩))) (by have := hK.size; omega)
  have szm : ∀ W, Keep (fun b => b < Wb.heap.size) Wb W → SizesMk W1.heap.size W (.slice (some ⟨gm, 0, none⟩) (l.length + 1) cm) l markC (l.length + 1) := fun W hK => om9.keepT hK (fun b cs t _ h _ => heap_lt h)
  have fs1 := fun W (hK : Keep (fun b => b < Wb.heap.size) Wb W) => lawSame_any W.heap.size MP _ _ _ _ _ _ W (plp W hK) (plq W (to2 W hK)) (Nat.le_refl _)
  have fs2 := fun W (hK : Keep (fun b => (b < lo ∨ hi ≤ b) ∧ b < Wb.heap.size) Wb W) => lawSame_any W.heap.size MP _ _ _ _ _ _ W (plt W hK) (plq W hK) (Nat.le_refl _)
  have fr := fun W (hK : Keep (fun b => (b < lo ∨ hi ≤ b) ∧ b < Wb.heap.size) Wb W) => sameRules_eq W.heap.size ⟨⟨pr, args⟩, body⟩ (.slice xh args.length xch) (.slice xb body.length xcb) (.slice ah args.length ch) (.slice ab body.length cb) W ((xin9.keep (hK.mono fun b _ h => ⟨.inl (by omega), by omega⟩)).wider (by have := hK.size; omega))
    ((Xhr.out.keep ((kw9.mono fun b _ h => by omega).trans (hK.mono fun b _ h => ⟨.inl (by omega), by omega⟩))).wider (by have := hK.size; omega)) (Nat.le_refl _)
  have fl := fun W (hK : Keep (fun b => b < Wb.heap.size) Wb W) => left_any W.heap.size W1.heap.size l _ gm cm W (szl W (to2 W hK)) (szm W hK) (Nat.le_refl _)
  have fro := fun W (hK : Keep (fun b => b < Wb.heap.size) Wb W) => rows_any W.heap.size MP _ _ _ l _ W (plp W hK) ((szm W hK).sizes hls Xhdl.out) (Nat.le_refl _)
  have frr := fun W (hK : Keep (fun b => b < Wb.heap.size) Wb W) => refRows_any W.heap.size MP Xhz3.out _ _ _ l _ W (plq W (to2 W hK)) (szl W (to2 W hK)) (Nat.le_refl _)
  have fco := fun W (hK : Keep (fun b => b < Wb.heap.size) Wb W) => cost_any W.heap.size MP _ _ _ l _ W (plp W hK) ((szm W hK).sizes hls Xhdl.out) (Nat.le_refl _)
  have frc := fun W (hK : Keep (fun b => b < Wb.heap.size) Wb W) => refCost_any W.heap.size MP Xhz3.out _ _ _ l _ W (plq W (to2 W hK)) (szl W (to2 W hK)) (Nat.le_refl _)
  have hop := fun W (hK : Keep (fun b => b < Wb.heap.size) Wb W) => (op9.keep hK fun b _ h => h)
  obtain ⟨ds, bs, hd1, hd2, hd3, hd4, hshape⟩ := Xop.out.shape
  have fsp := fun W (hK : Keep (fun b => b < hi) W4 W) => spoil_any mp _ _ _ lo hi na ds bs W (by
      have := hshape.keep hK (fun b h => by rw [hhi] at h; exact h)
      rw [hlo, hhi, Xhna.out] at this
      exact this) (by have := hK.size; omega) (by rw [← Xhna.out]; exact Xhz1.out.1) (by rw [hd1]; exact Xhz2.out.1) (by rw [hd2]; exact Xhz1.out.2.1)
    (fun d hd => by obtain ⟨s, h1, h2, h3⟩ := hd3 d hd; rw [h2, h3]; exact Xhz2.out.2 s h1) (fun d hd => by obtain ⟨L, h1, h2⟩ := hd4 d hd; rw [h2]; exact Xhz1.out.2.2 L h1)
  have k49 : Keep (fun b => b < hi) W4 Wb := ((Xk5.out.mono fun _ _ _ => trivial).trans (Xk57.out.mono fun b _ h => by omega)).trans (k79.mono fun b _ h => by omega)
  unfold planV at fs1 fs2 fro frr fco frc
  unfold ruleV at fr
  simp only [Xhmp.out] at fs1 fs2 fro frr fco frc fr
  obtain ⟨er, her⟩ : ∃ e, rowsErr MP l = e := ⟨_, rfl⟩
  obtain ⟨rd, hrd⟩ : ∃ e, rowsD MP l = e := ⟨_, rfl⟩
  obtain ⟨co, hco⟩ : ∃ e, costD MP l = e := ⟨_, rfl⟩
  have hrle := rowsD_le (p := MP) (l := l)
  have hrlen : (rowsD MP l).length ≤ 1073741824 := by
    have := rowsD_len (p := MP) (l := l)
    have := Xhz2.out.1
    omega
  rw [hrd] at hrle hrlen
  rw [hco] at hce
  simp only [her, hrd, hco] at fro frr fco frc
  have hee : (er != er) = false := by simp
  have hmm : (me != me) = false := by simp
  have hmm2 : (me == me) = true := by simp
  obtain ⟨n0, n1, n2, a0, a1, a2, b0, b1, b2, b3, c0, c1, c2, c3, e0, e1, e2, e3, lN, lA, lB, lC, lE⟩ := hcells Wb (Keep.refl _ _)
  have back : ∀ W, Keep (fun b => (b < lo ∨ hi ≤ b) ∧ b < Wb.heap.size) Wb W → Keep (fun b => b < w.heap.size) w W := fun W hK => kw9.trans (hK.mono fun b _ h => ⟨.inl (by omega), by omega⟩)
  have kq0 : Keep (fun b => b < Wb.heap.size) Wb Wb := Keep.refl _ _
  clear hWb q9 q09 q39 q59 q79 xin9 om9 op9 ot9 rq9 oq9 kw9 k79 plp plt plq szl szm hop hshape hd3 hd4 her hrd hco hlo hhi
  clear Xxin Xom Xk2 Xk1 Xk0 Xkw1 Xq0 Xk3 Xq3 Xq03 Xxin3 Xom3 Xkw3 Xg3 Xop Xk4 Xk5 Xq5 Xq05 Xq35 Xxin5 Xom5 Xop5 Xkw5 Xg5 Xk35 Xot Xk6 Xk7 Xq7 Xq07 Xq37 Xq57 Xxin7 Xom7 Xop7 Xot7 Xkw7 Xg7 Xk57 Xrq Xoq Xk8 Xftws Xfrmk Xfmk Xg1 Xg2 Xox
  have Xhcells := Lib.hid hcells
  have Xto2 := Lib.hid to2
  have Xfs1 := Lib.hid fs1
  have Xfs2 := Lib.hid fs2
  have Xfr := Lib.hid fr
  have Xfl := Lib.hid fl
  have Xfro := Lib.hid fro
  have Xfrr := Lib.hid frr
  have Xfco := Lib.hid fco
  have Xfrc := Lib.hid frc
  have Xfsp := Lib.hid fsp
  have Xk49 := Lib.hid k49
  have Xhrle := Lib.hid hrle
  have XhE := Lib.hid hE
  have Xback := Lib.hid back
  have Xkq0 := Lib.hid kq0
  have Xhd1 := Lib.hid hd1
  have Xhd2 := Lib.hid hd2
  have Xk9 := Lib.hid k9
  clear hcells to2 fs1 fs2 fr fl fro frr fco frc fsp k49 hrle hE back kq0 hd1 hd2 k9
  go_wp2_with fail
  refine (lawNum_any me Wb).mono ?_
  rintro e w9 ⟨rfl, hw9⟩; have hw9 := hw9.symm; subst hw9
  go_wp2_with fail
  refine (Xfs1.out Wb Xkq0.out).mono ?_
  rintro e W10 ⟨rfl, hk⟩
  have kq1 : Keep (fun b => b < Wb.heap.size) Wb W10 := Xkq0.out.trans (hk.mono fun b _ h => by have := Xkq0.out.size; omega); clear n0 n1 n2 a0 a1 a2 b0 b1 b2 b3 c0 c1 c2 c3 e0 e1 e2 e3 lN lA lB lC lE hk; obtain ⟨n0, n1, n2, a0, a1, a2, b0, b1, b2, b3, c0, c1, c2, c3, e0, e1, e2, e3, lN, lA, lB, lC, lE⟩ := Xhcells.out W10 (Xto2.out W10 kq1)
  have Xkq1 := Lib.hid kq1
  clear kq1
  go_wp2_with fail
  refine (Xfs2.out W10 (Xto2.out _ Xkq1.out)).mono ?_
  rintro e W11 ⟨rfl, hk⟩
  have kq2 : Keep (fun b => b < Wb.heap.size) Wb W11 := Xkq1.out.trans (hk.mono fun b _ h => by have := Xkq1.out.size; omega); clear n0 n1 n2 a0 a1 a2 b0 b1 b2 b3 c0 c1 c2 c3 e0 e1 e2 e3 lN lA lB lC lE hk; obtain ⟨n0, n1, n2, a0, a1, a2, b0, b1, b2, b3, c0, c1, c2, c3, e0, e1, e2, e3, lN, lA, lB, lC, lE⟩ := Xhcells.out W11 (Xto2.out W11 kq2)
  have Xkq2 := Lib.hid kq2
  clear kq2
  go_wp2_with fail
  refine (Xfl.out W11 Xkq2.out).mono ?_
  rintro e W12 ⟨rfl, hk⟩
  have kq3 : Keep (fun b => b < Wb.heap.size) Wb W12 := Xkq2.out.trans (hk.mono fun b _ h => by have := Xkq2.out.size; omega); clear n0 n1 n2 a0 a1 a2 b0 b1 b2 b3 c0 c1 c2 c3 e0 e1 e2 e3 lN lA lB lC lE hk; obtain ⟨n0, n1, n2, a0, a1, a2, b0, b1, b2, b3, c0, c1, c2, c3, e0, e1, e2, e3, lN, lA, lB, lC, lE⟩ := Xhcells.out W12 (Xto2.out W12 kq3)
  have Xkq3 := Lib.hid kq3
  clear kq3
  go_wp2_with fail
  refine (Xfr.out W12 (Xto2.out _ Xkq3.out)).mono ?_
  rintro e W13 ⟨rfl, hk⟩
  have kq4 : Keep (fun b => b < Wb.heap.size) Wb W13 := Xkq3.out.trans (hk.mono fun b _ h => by have := Xkq3.out.size; omega); clear n0 n1 n2 a0 a1 a2 b0 b1 b2 b3 c0 c1 c2 c3 e0 e1 e2 e3 lN lA lB lC lE hk; obtain ⟨n0, n1, n2, a0, a1, a2, b0, b1, b2, b3, c0, c1, c2, c3, e0, e1, e2, e3, lN, lA, lB, lC, lE⟩ := Xhcells.out W13 (Xto2.out W13 kq4)
  have Xkq4 := Lib.hid kq4
  clear kq4
  go_wp2_with fail
  refine (Xfro.out W13 Xkq4.out).mono ?_
  rintro e W14 ⟨vA, rfl, oA, hk⟩
  obtain ⟨aA, cA, rfl⟩ := own_form oA
  have hA := own_floats oA hrlen
  clear oA
  have XhA := Lib.hid hA
  clear hA
  have kq5 : Keep (fun b => b < Wb.heap.size) Wb W14 := Xkq4.out.trans (hk.mono fun b _ h => by have := Xkq4.out.size; omega); clear n0 n1 n2 a0 a1 a2 b0 b1 b2 b3 c0 c1 c2 c3 e0 e1 e2 e3 lN lA lB lC lE hk; obtain ⟨n0, n1, n2, a0, a1, a2, b0, b1, b2, b3, c0, c1, c2, c3, e0, e1, e2, e3, lN, lA, lB, lC, lE⟩ := Xhcells.out W14 (Xto2.out W14 kq5)
  have Xkq5 := Lib.hid kq5
  clear kq5
  go_wp2_with fail
  refine (Xfrr.out W14 Xkq5.out).mono ?_
  rintro e W15 ⟨vB, rfl, oB, hk⟩
  obtain ⟨aB, cB, rfl⟩ := own_form oB
  have hsz15 := hk.size
  have hB := own_floats oB hrlen
  have hA2 := floats_wider (floats_kept XhA.out hk) hsz15
  clear oB
  have XhA2 := Lib.hid hA2
  have XhB := Lib.hid hB
  clear hA2 hB
  have kq6 : Keep (fun b => b < Wb.heap.size) Wb W15 := Xkq5.out.trans (hk.mono fun b _ h => by have := Xkq5.out.size; omega); clear n0 n1 n2 a0 a1 a2 b0 b1 b2 b3 c0 c1 c2 c3 e0 e1 e2 e3 lN lA lB lC lE hk; obtain ⟨n0, n1, n2, a0, a1, a2, b0, b1, b2, b3, c0, c1, c2, c3, e0, e1, e2, e3, lN, lA, lB, lC, lE⟩ := Xhcells.out W15 (Xto2.out W15 kq6)
  have Xkq6 := Lib.hid kq6
  clear kq6
  go_wp2_with fail
  refine (Xfco.out W15 Xkq6.out).mono ?_
  rintro e W16 ⟨rfl, hk⟩
  have k16 := hk
  have hsz16 := hk.size
  have Xk16 := Lib.hid k16
  clear k16
  have kq7 : Keep (fun b => b < Wb.heap.size) Wb W16 := Xkq6.out.trans (hk.mono fun b _ h => by have := Xkq6.out.size; omega); clear n0 n1 n2 a0 a1 a2 b0 b1 b2 b3 c0 c1 c2 c3 e0 e1 e2 e3 lN lA lB lC lE hk; obtain ⟨n0, n1, n2, a0, a1, a2, b0, b1, b2, b3, c0, c1, c2, c3, e0, e1, e2, e3, lN, lA, lB, lC, lE⟩ := Xhcells.out W16 (Xto2.out W16 kq7)
  have Xkq7 := Lib.hid kq7
  clear kq7
  go_wp2_with fail
  refine (Xfrc.out W16 Xkq7.out).mono ?_
  rintro e W17 ⟨rfl, hk⟩
  have k17 : Keep (fun b => b < W15.heap.size) W15 W17 := Xk16.out.trans (hk.mono fun b _ h => by omega)
  have hsz17 := k17.size
  have hal := alike_any W15.heap.size _ _ rd Xhrle.out W17 (floats_kept XhA2.out k17) (floats_kept XhB.out k17) hsz17
  clear k17
  have Xhal := Lib.hid hal
  clear hal
  have kq8 : Keep (fun b => b < Wb.heap.size) Wb W17 := Xkq7.out.trans (hk.mono fun b _ h => by have := Xkq7.out.size; omega); clear n0 n1 n2 a0 a1 a2 b0 b1 b2 b3 c0 c1 c2 c3 e0 e1 e2 e3 lN lA lB lC lE hk; obtain ⟨n0, n1, n2, a0, a1, a2, b0, b1, b2, b3, c0, c1, c2, c3, e0, e1, e2, e3, lN, lA, lB, lC, lE⟩ := Xhcells.out W17 (Xto2.out W17 kq8)
  have Xkq8 := Lib.hid kq8
  clear kq8
  go_wp2_with fail
  refine (lawNum_any er W17).mono ?_
  rintro e w9 ⟨rfl, hw9⟩; have hw9 := hw9.symm; subst hw9
  go_wp2_with fail
  refine (lawNum_any er W17).mono ?_
  rintro e w9 ⟨rfl, hw9⟩; have hw9 := hw9.symm; subst hw9
  go_wp2_with fail
  refine Xhal.out.mono ?_
  rintro e w18 ⟨rfl, m18, hw18⟩
  have hk : Keep (fun b => b < W17.heap.size) W17 w18 := by rw [hw18]; exact Keep.drewN' _ _ _
  clear hw18
  have kq9 : Keep (fun b => b < Wb.heap.size) Wb w18 := Xkq8.out.trans (hk.mono fun b _ h => by have := Xkq8.out.size; omega); clear n0 n1 n2 a0 a1 a2 b0 b1 b2 b3 c0 c1 c2 c3 e0 e1 e2 e3 lN lA lB lC lE hk; obtain ⟨n0, n1, n2, a0, a1, a2, b0, b1, b2, b3, c0, c1, c2, c3, e0, e1, e2, e3, lN, lA, lB, lC, lE⟩ := Xhcells.out w18 (Xto2.out w18 kq9)
  have Xkq9 := Lib.hid kq9
  clear kq9
  go_wp2_with fail
  refine (Xfs1.out w18 Xkq9.out).mono ?_
  rintro e W19 ⟨rfl, hk⟩
  have kq10 : Keep (fun b => b < Wb.heap.size) Wb W19 := Xkq9.out.trans (hk.mono fun b _ h => by have := Xkq9.out.size; omega); clear n0 n1 n2 a0 a1 a2 b0 b1 b2 b3 c0 c1 c2 c3 e0 e1 e2 e3 lN lA lB lC lE hk; obtain ⟨n0, n1, n2, a0, a1, a2, b0, b1, b2, b3, c0, c1, c2, c3, e0, e1, e2, e3, lN, lA, lB, lC, lE⟩ := Xhcells.out W19 (Xto2.out W19 kq10)
  have Xkq10 := Lib.hid kq10
  clear kq10
  go_wp2_with fail
  refine (Xfl.out W19 Xkq10.out).mono ?_
  rintro e W20 ⟨rfl, hk⟩
  have kq11 : Keep (fun b => b < Wb.heap.size) Wb W20 := Xkq10.out.trans (hk.mono fun b _ h => by have := Xkq10.out.size; omega); clear n0 n1 n2 a0 a1 a2 b0 b1 b2 b3 c0 c1 c2 c3 e0 e1 e2 e3 lN lA lB lC lE hk; obtain ⟨n0, n1, n2, a0, a1, a2, b0, b1, b2, b3, c0, c1, c2, c3, e0, e1, e2, e3, lN, lA, lB, lC, lE⟩ := Xhcells.out W20 (Xto2.out W20 kq11)
  have Xkq11 := Lib.hid kq11
  clear kq11
  go_wp2_with fail
  refine (Xfsp.out W20 (Xk49.out.trans (Xkq11.out.mono fun b _ h => by omega))).mono ?_
  rintro e W21 ⟨rfl, hk⟩
  have kr0 : Keep (fun b => (b < lo ∨ hi ≤ b) ∧ b < Wb.heap.size) Wb W21 := (Xto2.out _ Xkq11.out).trans (hk.mono fun b _ h => h.1)
  clear n0 n1 n2 a0 a1 a2 b0 b1 b2 b3 c0 c1 c2 c3 e0 e1 e2 e3 lN lA lB lC lE
  clear hk
  obtain ⟨n0, n1, n2, a0, a1, a2, b0, b1, b2, b3, c0, c1, c2, c3, e0, e1, e2, e3, lN, lA, lB, lC, lE⟩ := Xhcells.out W21 kr0
  have Xkr0 := Lib.hid kr0
  clear kr0
  go_wp2_with fail
  refine (Xfs2.out W21 Xkr0.out).mono ?_
  rintro e W22 ⟨rfl, hk⟩
  have kr1 : Keep (fun b => (b < lo ∨ hi ≤ b) ∧ b < Wb.heap.size) Wb W22 := Xkr0.out.trans (hk.mono fun b _ h => by have := Xkr0.out.size; omega); clear n0 n1 n2 a0 a1 a2 b0 b1 b2 b3 c0 c1 c2 c3 e0 e1 e2 e3 lN lA lB lC lE hk; obtain ⟨n0, n1, n2, a0, a1, a2, b0, b1, b2, b3, c0, c1, c2, c3, e0, e1, e2, e3, lN, lA, lB, lC, lE⟩ := Xhcells.out W22 kr1
  have Xkr1 := Lib.hid kr1
  clear kr1
  go_wp2_with fail
  refine (Xfr.out W22 Xkr1.out).mono ?_
  rintro e W23 ⟨rfl, hk⟩
  have kr2 : Keep (fun b => (b < lo ∨ hi ≤ b) ∧ b < Wb.heap.size) Wb W23 := Xkr1.out.trans (hk.mono fun b _ h => by have := Xkr1.out.size; omega); clear n0 n1 n2 a0 a1 a2 b0 b1 b2 b3 c0 c1 c2 c3 e0 e1 e2 e3 lN lA lB lC lE hk; obtain ⟨n0, n1, n2, a0, a1, a2, b0, b1, b2, b3, c0, c1, c2, c3, e0, e1, e2, e3, lN, lA, lB, lC, lE⟩ := Xhcells.out W23 kr2
  have Xkr2 := Lib.hid kr2
  clear kr2
  clear n0 n1 n2 a0 a1 a2 b0 b1 b2 b3 c0 c1 c2 c3 e0 e1 e2 e3 lN lA lB lC lE
  go_wp2_with fail
  refine (known_any W23).mono ?_
  rintro e W24 ⟨rfl, hk⟩
  have kend : Keep (fun b => b < w.heap.size) w W24 := (Xback.out _ Xkr2.out).trans (hk.mono fun b _ h => by have := (Xback.out _ Xkr2.out).size; omega)
  clear hk
  have Xkend := Lib.hid kend
  clear kend
  go_wp2_with fail
  go_ret
  exact ⟨rfl, Xkend.out⟩
end Go.Proofs
