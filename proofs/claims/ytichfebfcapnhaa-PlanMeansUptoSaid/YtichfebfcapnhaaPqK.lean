/- Layer 16 (plan): the law PlanMeans. -/
import Derived.Test.YtichfebfcapnhaaProg
import Derived.Test.YtichfebfcapnhaaPqJ
import Derived.Test.YtichfebfcapnhaaPpP
import Derived.Test.YtichfebfcapnhaaPoEToPpA
namespace Go.Proofs
open Go.RowKit Go.Ink Go.Flt
set_option linter.unusedVariables false
set_option linter.unusedSimpArgs false
attribute [local go_sem] Oper.semAt_some

theorem run_fsub {a : Nat} (ha : a < 9218868437227405312) (w : World) : (binOp .sub 49 (.float .f64 a) (.float .f64 a)).run Try.prog w = .ok (.float .f64 0) w := run_float_arith w .sub _ .f64 a a _ (sub_self ha)
set_option maxRecDepth 100000 in
theorem good_any (a : Nat) (ha : a < 9218868437227405312) (w : World) : Calls Try.prog 31 #[.float .f64 a] w fun e w' => e = .returned (.bool true) ∧ w' = w := by
  have h1 := geq_zero ha
  have h2 := fun w => run_fsub ha w
  have h3 : (FloatKind.f64.format.order 0 0 == some .eq) = true := by decide
  clear ha
  go_enter Try.func31, Try.ntmps31
  go_wp2_with fail
  go_ret
  exact ⟨rfl, rfl⟩

theorem made_sized {r : RuleD} (hs : sizedR r) {l : List SizeD} {first : Int} (j : Nat) : ∀ x, x ∈ (mkGo r l first j).steps → x.bound.length ≤ 1073741824 ∧ x.new.length ≤ 1073741824 := by
  induction j with
  | zero => intro x hx; simp [mkGo] at hx
  | succ j ih =>
    intro x hx
    change x ∈ (stepM r l _ (mkGo r l first j)).steps at hx
    unfold stepM at hx
    simp only at hx
    rcases List.mem_append.1 hx with hx | hx
    · exact ih x hx
    · simp only [List.mem_singleton] at hx
      subst hx
      have hlen : ∀ k, (r.body.getD k default).atom.args.length ≤ 1073741824 := fun k => by
        rw [List.getD_eq_getElem?_getD]
        cases hk : r.body[k]? with
        | none => simp only [Option.getD_none]; decide
        | some L => exact hs.2.2 L (List.mem_of_getElem? hk)
      have h1 := step_len (mkGo r l first j).K (r.body.getD (chooseM r l first j (mkGo r l first j)).toNat default) (chooseM r l first j (mkGo r l first j))
      have h2 := hlen (chooseM r l first j (mkGo r l first j)).toNat
      omega

theorem tried_sized {r : RuleD} {l : List SizeD} (hF : formedB r = true) (hs : sizedR r) (os : List (List Int)) : ∀ best : BestD, (∀ b s, best = some (b, s) → sizedS s) → ∀ b s, os.foldl (tryO r.body l) best = some (b, s) → sizedS s := by
  induction os with
  | nil => intro best h; exact h
  | cons o os ih =>
    intro best h
    refine ih _ ?_
    unfold tryO
    split
    · exact h
    · rename_i ss hss
      intro b s e
      unfold updB at e
      cases best with
      | none => cases e; exact planned_sized hs hss hF
      | some p =>
        obtain ⟨b0, s0⟩ := p
        simp only at e
        split at e
        · cases e; exact planned_sized hs hss hF
        · cases e; exact h _ _ rfl
theorem least_sized {r : RuleD} {l : List SizeD} (hs : sizedR r) : sizedS (leastD r l).1.steps := by
  have hno : sizedS noPlan.steps := ⟨by decide, fun s hs => by simp [noPlan] at hs⟩
  rw [least_eq]
  unfold refLeastD
  by_cases ha : askedD r l (decide (6 < r.body.length)) ≠ 0
  · rw [if_pos ha]
    exact hno
  · rw [if_neg ha]
    obtain ⟨hF, hU, h6, -⟩ := asked_parts (show askedD r l (decide (6 < r.body.length)) = 0 by omega)
    have hz := tried_sized (l := l) hF hs (lvlO r.body.length r.body.length) none (fun _ _ h => by cases h)
    cases hc : refB r l with
    | none => exact hno
    | some p =>
      obtain ⟨b, s⟩ := p
      exact hz b s hc

set_option maxRecDepth 100000 in
set_option maxHeartbeats 4000000 in
theorem lawPlanMeans_any (n : Nat) (r : RuleD) (sh sb : Value) (l : List SizeD) (sv : Value) (first : Int) (w : World) (hr : RuleIn n w sh sb r) (hl : SizesIn n w sv l) (hn : n ≤ w.heap.size) :
    Calls Try.prog 8 #[ruleV r sh sb, sv, .int .i64 first] w fun e w' => e = .returned (.bool true) ∧ Keep (fun b => b < w.heap.size) w w' := by
  have hsz := sized_of hr
  have hM0 : makeD r l first = if askedD r l (badFirst r first) ≠ 0 then (noPlan, askedD r l (badFirst r first)) else (⟨r, (mkGo r l first r.body.length).steps⟩, 0) := rfl
  have hmeans := fun h => make_means (r := r) (l := l) (first := first) h
  have hstz := made_sized hsz (l := l) (first := first) r.body.length
  have fmk := fun W (hK : Keep (fun b => b < w.heap.size) w W) => make_any n r sh sb l sv first W (hr.keep (hK.mono fun b _ h => by omega)) (hl.keep (hK.mono fun b _ h => by omega)) (by have := hK.size; omega)
  have fle := fun W (hK : Keep (fun b => b < w.heap.size) w W) => least_any n r sh sb l sv W (hr.keep (hK.mono fun b _ h => by omega)) (hl.keep (hK.mono fun b _ h => by omega)) (by have := hK.size; omega)
  obtain ⟨ea, hea⟩ : ∃ e, askedD r l (badFirst r first) = e := ⟨_, rfl⟩
  rw [hea] at hM0 hmeans
  obtain ⟨hh, hb⟩ := id hr
  obtain ⟨ah, ch, rfl, hla, -, -⟩ := id hh
  obtain ⟨ab, cb, rfl, hlb, hcb, heb⟩ := id hb
  obtain ⟨asl, csl, rfl, hls, -, -⟩ := id hl
  obtain ⟨⟨pr, args⟩, body⟩ := r
  unfold ruleV at fmk fle ⊢
  simp only at fmk fle hla hlb heb hM0 hmeans hstz ⊢
  obtain ⟨N, hN⟩ : ∃ N, w.heap.size = N := ⟨_, rfl⟩
  obtain ⟨W0, hW0⟩ : ∃ W0, w.alloc (.cells #[.string pr, .slice ah args.length ch, .slice ab body.length cb] 28) = W0 := ⟨_, rfl⟩
  have k0 : Keep (fun b => b < w.heap.size) w W0 := by rw [← hW0]; exact Keep.alloc _ _ _
  have z0 : W0.heap.size = w.heap.size + 1 := by rw [← hW0]; simp
  have q0 : W0.heap[w.heap.size]? = some (.cells #[.string pr, .slice ah args.length ch, .slice ab body.length cb] 28 (0, 0)) := by rw [← hW0]; exact new_block _ _
  rw [hN] at q0 z0
  have hNl : N < W0.heap.size := by omega
  clear hh hb
  have Xhr := Lib.hid hr
  have Xhl := Lib.hid hl
  have Xfmk := Lib.hid fmk
  have Xfle := Lib.hid fle
  have XhN := Lib.hid hN
  have XhW0 := Lib.hid hW0
  have Xk0 := Lib.hid k0
  have Xq0 := Lib.hid q0
  have Xhsz := Lib.hid hsz
  have Xhstz := Lib.hid hstz
  have Xheb := Lib.hid heb
  have Xhmeans := Lib.hid hmeans
  have XhM0 := Lib.hid hM0
  have Xhea := Lib.hid hea
  clear hr hl fmk fle hN hW0 k0 q0 hsz hstz heb hmeans hM0 hea
  go_enter Try.func8, Try.ntmps8
  go_wp2_with fail
  rw [XhW0.out, XhN.out]
  refine (known_any W0).mono ?_
  rintro e W1 ⟨rfl, k1⟩
  have hz1 := k1.size
  have q1 := k1.heap Xq0.out hNl
  have kw1 : Keep (fun b => b < w.heap.size) w W1 := Xk0.out.trans (k1.mono fun b _ h => by have := XhN.out; omega)
  have g1 := Xfmk.out W1 kw1
  have n0 := cells_of_block q1 0 _ rfl
  have n1 := cells_of_block q1 1 _ rfl
  have n2 := cells_of_block q1 2 _ rfl
  simp only [Nat.zero_add] at n0 n1 n2
  have hNl1 : N < W1.heap.size := by omega
  clear k1
  have Xq1 := Lib.hid q1
  have Xkw1 := Lib.hid kw1
  clear q1 kw1
  by_cases he0 : ea = 0
  · subst he0
    have hmn := Xhmeans.out rfl
    have hM1 : makeD ⟨⟨pr, args⟩, body⟩ l first = (⟨⟨⟨pr, args⟩, body⟩, (mkGo ⟨⟨pr, args⟩, body⟩ l first body.length).steps⟩, 0) := by rw [XhM0.out]; rfl
    rw [hM1] at g1
    obtain ⟨ss, hss⟩ : ∃ ss, (mkGo ⟨⟨pr, args⟩, body⟩ l first body.length).steps = ss := ⟨_, rfl⟩
    have hst2 := Xhstz.out
    rw [hss] at hst2
    have hsl := hmn.len
    try simp only at hmn
    rw [hss] at g1 hmn
    rw [hss] at hsl
    try simp only at hsl
    clear hM1 hss
    have Xg1 := Lib.hid g1
    have Xhmn := Lib.hid hmn
    have Xhst2 := Lib.hid hst2
    have Xhsl := Lib.hid hsl
    clear g1 hmn hst2 hsl
    unfold planV at Xg1
    go_wp2_with fail
    refine Xg1.out.mono ?_
    rintro e W2 ⟨vph, vpb, vps, rfl, op, k2⟩
    try simp only at op
    obtain ⟨aph, cph, rfl⟩ := own_form op.1.1
    obtain ⟨apb, cpb, rfl⟩ : ∃ a c, vpb = .slice a body.length c := by
      obtain ⟨ps, hps, h, _⟩ := op.1.2
      exact own_form h
    obtain ⟨aps, cps, rfl⟩ := op.2.form
    try simp only at op
    have hz2 := k2.size
    clear n0 n1 n2
    have Xop := Lib.hid op
    have Xk2 := Lib.hid k2
    clear op k2
    go_upto_region 4 with fail
    obtain ⟨B, hB⟩ : ∃ B, W2.heap.size = B := ⟨_, rfl⟩
    obtain ⟨Wb, hWb⟩ : ∃ W3, W2.alloc (.cells #[.string pr, .slice aph args.length cph, .slice apb body.length cpb, .slice aps ss.length cps] 34) = W3 := ⟨_, rfl⟩
    have k3 : Keep (fun _ => True) W2 Wb := by rw [← hWb]; exact Keep.alloc _ _ _
    have q3 := new_block W2 (.cells #[.string pr, .slice aph args.length cph, .slice apb body.length cpb, .slice aps ss.length cps] 34)
    rw [hWb, hB] at q3
    rw [hWb, hB]
    have hz3 := k3.size
    have qN := k3.heap (Xk2.out.heap Xq1.out hNl1) trivial
    have op9 := Xop.out.1.keep k3 (fun _ _ _ => trivial)
    have os9 := Xop.out.2.keep k3 (fun _ _ _ _ _ _ => trivial)
    have kw9 : Keep (fun b => b < w.heap.size) w Wb := (Xkw1.out.trans (Xk2.out.mono fun b _ h => by have := XhN.out; omega)).trans (k3.mono fun _ _ _ => trivial)
    have hwb : w.heap.size ≤ Wb.heap.size := by have := XhN.out; omega
    have hB9 := heap_lt q3
    have hN9 := heap_lt qN
    have hszs : sizedS ss := ⟨by rw [Xhsl.out]; exact hlb, Xhst2.out⟩
    have hcells : ∀ W, Keep (fun b => b < Wb.heap.size) Wb W → (W.cell? ⟨N, 0, none⟩ = some (.string pr) ∧ W.cell? ⟨N, 1, none⟩ = some (.slice ah args.length ch) ∧ W.cell? ⟨N, 2, none⟩ = some (.slice ab body.length cb) ∧ W.cell? ⟨B, 0, none⟩ = some (.string pr) ∧ W.cell? ⟨B, 1, none⟩ = some (.slice aph args.length cph) ∧ W.cell? ⟨B, 2, none⟩ = some (.slice apb body.length cpb) ∧ W.cell? ⟨B, 3, none⟩ = some (.slice aps ss.length cps) ∧ N < W.heap.size ∧ B < W.heap.size) := by
      intro W hK
      have s1 := hK.heap qN hN9
      have s3 := hK.heap q3 hB9
      have t0 := cells_of_block s1 0 _ rfl
      have t1 := cells_of_block s1 1 _ rfl
      have t2 := cells_of_block s1 2 _ rfl
      have t6 := cells_of_block s3 0 _ rfl
      have t7 := cells_of_block s3 1 _ rfl
      have t8 := cells_of_block s3 2 _ rfl
      have t9 := cells_of_block s3 3 _ rfl
      simp only [Nat.zero_add] at t0 t1 t2 t6 t7 t8 t9
      exact ⟨t0, t1, t2, t6, t7, t8, t9, heap_lt s1, heap_lt s3⟩
    have plp : ∀ W, Keep (fun b => b < Wb.heap.size) Wb W → PlanIn W.heap.size W (.slice aph args.length cph) (.slice apb body.length cpb) (.slice aps ss.length cps) ⟨⟨⟨pr, args⟩, body⟩, ss⟩ := fun W hK => ⟨(op9.keep hK fun b _ h => h).rule Xhsz.out, (os9.keep hK fun b cs t _ h _ => heap_lt h).steps hszs⟩
    have rin : ∀ W, Keep (fun b => b < Wb.heap.size) Wb W → RuleIn W.heap.size W (.slice ah args.length ch) (.slice ab body.length cb) ⟨⟨pr, args⟩, body⟩ := fun W hK => (Xhr.out.keep ((kw9.mono fun b _ h => by have := XhN.out; omega).trans (hK.mono fun b _ h => by have := XhN.out; omega))).wider (by have := hK.size; have := XhN.out; omega)
    have szl : ∀ W, Keep (fun b => b < Wb.heap.size) Wb W → SizesIn W.heap.size W (.slice asl l.length csl) l := fun W hK => SizesIn.wider (Xhl.out.keep ((kw9.mono fun b _ h => by have := XhN.out; omega).trans (hK.mono fun b _ h => by have := XhN.out; omega))) (by have := hK.size; have := XhN.out; omega)
    have her : rowsErr ⟨⟨⟨pr, args⟩, body⟩, ss⟩ l = 0 := by unfold rowsErr; rw [Xhmn.out.right, Xhmn.out.use]; rfl
    have hrd : rowsD ⟨⟨⟨pr, args⟩, body⟩, ss⟩ l = rowsL body l ss ss.length := by unfold rowsD; rw [if_pos her]
    have hco : costD ⟨⟨⟨pr, args⟩, body⟩, ss⟩ l = costS body l ss := by unfold costD; rw [hrd]; rfl
    have fro := fun W (hK : Keep (fun b => b < Wb.heap.size) Wb W) => rows_any W.heap.size ⟨⟨⟨pr, args⟩, body⟩, ss⟩ _ _ _ l _ W (plp W hK) (szl W hK) (Nat.le_refl _)
    have fco := fun W (hK : Keep (fun b => b < Wb.heap.size) Wb W) => cost_any W.heap.size ⟨⟨⟨pr, args⟩, body⟩, ss⟩ _ _ _ l _ W (plp W hK) (szl W hK) (Nat.le_refl _)
    have fri := fun W (hK : Keep (fun b => b < Wb.heap.size) Wb W) => right_any W.heap.size ⟨⟨⟨pr, args⟩, body⟩, ss⟩ _ _ _ W (plp W hK) (Nat.le_refl _)
    have fsr := fun W (hK : Keep (fun b => b < Wb.heap.size) Wb W) => sameRules_eq W.heap.size ⟨⟨pr, args⟩, body⟩ _ _ _ _ W (plp W hK).1 (rin W hK) (Nat.le_refl _)
    have frr := Xhmn.out.right
    unfold planV at fro fco fri
    unfold ruleV at fsr
    simp only [her, hrd, hco, frr] at fro fco fri fsr
    have hrlen : (rowsL body l ss ss.length).length = ss.length := by unfold rowsL; rw [List.length_map, List.length_range]
    simp only [hrlen] at fro
    have back : ∀ W, Keep (fun b => b < Wb.heap.size) Wb W → Keep (fun b => b < w.heap.size) w W := fun W hK => kw9.trans (hK.mono fun b _ h => by omega)
    have kq0 : Keep (fun b => b < Wb.heap.size) Wb Wb := Keep.refl _ _
    obtain ⟨n0, n1, n2, b0, b1, b2, b3, lN, lB⟩ := hcells Wb kq0
    have hcf := Xhmn.out.fin
    simp only at hcf
    have hgd := fun W => good_any _ hcf W
    obtain ⟨c, hc⟩ : ∃ c, costS body l ss = c := ⟨_, rfl⟩
    rw [hc] at hgd
    simp only [hc] at fco
    have hne1 : ((ss.length : Int) != body.length) = false := by rw [Xhsl.out]; simp
    clear hWb k3 q3 qN op9 os9 kw9 Xop Xk2 Xg1 Xq1 Xkw1 her hrd hco frr hcf
    have Xhcells := Lib.hid hcells
    have Xfro := Lib.hid fro
    have Xfco := Lib.hid fco
    have Xfri := Lib.hid fri
    have Xfsr := Lib.hid fsr
    have Xback := Lib.hid back
    have Xkq0 := Lib.hid kq0
    have Xhgd := Lib.hid hgd
    have Xplp := Lib.hid plp
    have Xrin := Lib.hid rin
    have Xhszs := Lib.hid hszs
    have Xhc := Lib.hid hc
    have Xhrlen := Lib.hid hrlen
    clear hcells fro fco fri fsr back kq0 hgd plp rin hszs hc hrlen
    go_wp2_with fail
    refine (lawNum_any _ Wb).mono ?_
    rintro e w9 ⟨rfl, hw9⟩; have hw9 := hw9.symm; subst hw9
    go_wp2_with fail
    refine (Xfro.out Wb Xkq0.out).mono ?_
    rintro e W4 ⟨vr, rfl, orr, hk⟩
    obtain ⟨ar, cr, rfl⟩ := own_form orr
    have hfl := own_floats orr (by rw [Xhrlen.out, Xhsl.out]; exact hlb)
    have hz4 := hk.size
    clear orr
    have Xhfl := Lib.hid hfl
    clear hfl
    have kq1 : Keep (fun b => b < Wb.heap.size) Wb W4 := Xkq0.out.trans (hk.mono fun b _ h => by have := Xkq0.out.size; omega); clear n0 n1 n2 b0 b1 b2 b3 lN lB hk; obtain ⟨n0, n1, n2, b0, b1, b2, b3, lN, lB⟩ := Xhcells.out W4 kq1
    have Xkq1 := Lib.hid kq1
    clear kq1
    go_wp2_with fail
    refine (Xfco.out W4 Xkq1.out).mono ?_
    rintro e W5 ⟨rfl, hk⟩
    have k45 := hk
    have Xk45 := Lib.hid k45
    clear k45
    have kq2 : Keep (fun b => b < Wb.heap.size) Wb W5 := Xkq1.out.trans (hk.mono fun b _ h => by have := Xkq1.out.size; omega); clear n0 n1 n2 b0 b1 b2 b3 lN lB hk; obtain ⟨n0, n1, n2, b0, b1, b2, b3, lN, lB⟩ := Xhcells.out W5 kq2
    have Xkq2 := Lib.hid kq2
    clear kq2
    go_wp2_with fail
    refine (Xfri.out W5 Xkq2.out).mono ?_
    rintro e W6 ⟨rfl, hk⟩
    have k46 : Keep (fun b => b < W4.heap.size) W4 W6 := Xk45.out.trans (hk.mono fun b _ h => by have := Xk45.out.size; omega)
    have Xk46 := Lib.hid k46
    clear k46
    have kq3 : Keep (fun b => b < Wb.heap.size) Wb W6 := Xkq2.out.trans (hk.mono fun b _ h => by have := Xkq2.out.size; omega); clear n0 n1 n2 b0 b1 b2 b3 lN lB hk; obtain ⟨n0, n1, n2, b0, b1, b2, b3, lN, lB⟩ := Xhcells.out W6 kq3
    have Xkq3 := Lib.hid kq3
    clear kq3
    go_wp2_with fail
    refine (Xfsr.out W6 Xkq3.out).mono ?_
    rintro e W7 ⟨rfl, hk⟩
    have k47 : Keep (fun b => b < W4.heap.size) W4 W7 := Xk46.out.trans (hk.mono fun b _ h => by have := Xk46.out.size; omega)
    have Xk47 := Lib.hid k47
    clear k47
    have kq4 : Keep (fun b => b < Wb.heap.size) Wb W7 := Xkq3.out.trans (hk.mono fun b _ h => by have := Xkq3.out.size; omega); clear n0 n1 n2 b0 b1 b2 b3 lN lB hk; obtain ⟨n0, n1, n2, b0, b1, b2, b3, lN, lB⟩ := Xhcells.out W7 kq4
    have Xkq4 := Lib.hid kq4
    clear kq4
    go_wp2_with fail
    refine (lawNum_any _ W7).mono ?_
    rintro e w9 ⟨rfl, hw9⟩; have hw9 := hw9.symm; subst hw9
    go_wp2_with fail
    refine (lawNum_any _ W7).mono ?_
    rintro e w9 ⟨rfl, hw9⟩; have hw9 := hw9.symm; subst hw9
    go_wp2_with fail
    refine (Xhgd.out W7).mono ?_
    rintro e w9 ⟨rfl, hw9⟩; have hw9 := hw9.symm; subst hw9
    have hfl7 := floats_kept Xhfl.out Xk47.out
    have hsi := (Xplp.out W7 Xkq4.out).2
    have hri := (Xrin.out W7 Xkq4.out).2
    obtain ⟨as', cs', es', -, hcaps, hes⟩ := hsi
    cases es'
    obtain ⟨ab', cb', eb', -, -, heb7⟩ := hri
    cases eb'
    obtain ⟨ar', cr', er', -, hcapr, her7⟩ := hfl7
    simp only [Value.slice.injEq] at er'
    obtain ⟨rfl, -, rfl⟩ := er'
    rw [Xhrlen.out] at hcapr
    have Xhes := Lib.hid hes
    have Xheb7 := Lib.hid heb7
    have Xher7 := Lib.hid her7
    clear hes heb7 her7
    go_upto_region 10 with fail
    go_cut [109] from 99 to 108 (fun x7 wx => x7 = .bool false ∧ wx = W7)
    case first =>
      by_cases hf0 : 0 ≤ first
      · obtain ⟨x0, hx0, hl0⟩ := Xhmn.out.fst hf0
        obtain ⟨b8, o8, rfl, hb8, bv, nv, hcl, -, -⟩ := Xhes.out 0 x0 hx0
        have d0 := hcl 0 _ rfl
        simp only [Nat.zero_mul, Nat.add_zero] at d0
        rw [hl0] at d0
        have hls0 : 0 < ss.length := (List.getElem?_eq_some_iff.1 hx0).1
        have hls1 : (0 : Int) < ss.length := by omega
        clear hcl hx0 hl0
        go_wp2_with fail
        go_meet
        exact ⟨rfl, rfl⟩
      · go_wp2_with fail
        go_meet
        exact ⟨rfl, rfl⟩
    case rest =>
      obtain ⟨rfl, hwc⟩ := hcut
      subst hwc
      have hss30 : ss.length ≤ 1073741824 := by rw [Xhsl.out]; exact hlb
      go_wp2_with fail
      go_loopw [13, 14] (fun x13 i' wr => ∃ k : Nat, k ≤ ss.length ∧ i' = .int .i64 (k : Int) ∧ x13 = .float .f64 (rowAt body l ss k) ∧ wr = wc) (fun _ i _ => ss.length - (intOf i).toNat)
      case atStart => exact ⟨0, by omega, rfl, rfl, rfl⟩
      case round =>
        obtain ⟨k, hk, rfl, rfl, rfl⟩ := hrel
        by_cases hlt : k < ss.length
        · have hlt1 : (k : Int) < ss.length := by omega
          have hk0 : (0 : Int) ≤ k := by omega
          obtain ⟨x, hx⟩ : ∃ x, ss[k]? = some x := ⟨_, List.getElem?_eq_getElem hlt⟩
          obtain ⟨b8, o8, rfl, hb8, bv, nv, hcl, -, -⟩ := Xhes.out k x hx
          have d0 := hcl 0 _ rfl
          simp only [Nat.add_zero] at d0
          have hxr : (rowsL body l ss ss.length)[k]? = some (rowAt body l ss (k + 1)) := by
            unfold rowsL
            rw [List.getElem?_map, List.getElem?_range hlt]
            rfl
          obtain ⟨b9, o9, rfl, hb9, hcr⟩ := Xher7.out k _ hxr
          have hlit := Xhmn.out.lit k x hx
          have hrow := Xhmn.out.row k hlt
          have htst := Xhmn.out.tst k x hx
          simp only at hlit hrow htst
          have hf1 : rowAt body l ss (k + 1) < 9218868437227405312 := Nat.lt_of_le_of_lt (rowAt_le Xhmn.out.use _) (by decide)
          have hf0 : rowAt body l ss k < 9218868437227405312 := Nat.lt_of_le_of_lt (rowAt_le Xhmn.out.use _) (by decide)
          have hfc := Xhmn.out.fin
          simp only [Xhc.out] at hrow hfc
          obtain ⟨i, hi⟩ : ∃ i : Nat, x.lit = i := ⟨x.lit.toNat, by have := hlit.1; omega⟩
          rw [hi] at hlit htst d0
          obtain ⟨L, hL⟩ : ∃ L, body[i]? = some L := ⟨_, List.getElem?_eq_getElem (by have := hlit.2; omega)⟩
          obtain ⟨bb, ob, rfl, hbb, sa, hcb7, -⟩ := Xheb7.out i L hL
          have kd0 := hcb7 0 _ rfl
          simp only [Nat.add_zero] at kd0
          have hgd : body.getD ((i : Int)).toNat default = L := by rw [Int.toNat_natCast, List.getD_eq_getElem?_getD, hL]; rfl
          rw [hgd] at htst
          have hi0 : (0 : Int) ≤ i := by omega
          have hi1 : (i : Int) < body.length := hlit.2
          have hg1 : (FloatKind.f64.format.order (rowAt body l ss (k + 1)) c == some .gt) = false := by rw [gtr_fin hf1 hfc]; exact decide_eq_false (by omega)
          have hg2 : L.kind ≠ 1 → (FloatKind.f64.format.order (rowAt body l ss (k + 1)) (rowAt body l ss k) == some .gt) = false := fun h => by rw [gtr_fin hf1 hf0]; exact decide_eq_false (by have := htst h; omega)
          have hgo := fun W => good_any (rowAt body l ss (k + 1)) hf1 W
          obtain ⟨ra, hra⟩ : ∃ y, rowAt body l ss k = y := ⟨_, rfl⟩
          obtain ⟨rb, hrb⟩ : ∃ y, rowAt body l ss (k + 1) = y := ⟨_, rfl⟩
          rw [hrb] at hg1 hg2 hgo hcr
          rw [hra] at hg2 ⊢
          unfold FloatE at hcr
          simp only [Nat.mul_one] at hcr
          clear hcl hcb7 hlit hrow htst hf1 hf0 hfc hx hL hgd hxr
          by_cases hk1 : L.kind = 1
          · have hkb : (L.kind != 1) = false := by rw [hk1]; rfl
            clear hg2 hk1
            have Xhrb := Lib.hid hrb
            have Xhra := Lib.hid hra
            clear hrb hra
            have Xhgo := Lib.hid hgo
            clear hgo
            go_wp2_with fail
            refine (Xhgo.out _).mono ?_
            rintro e w9 ⟨rfl, hw9⟩; have hw9 := hw9.symm; subst hw9
            go_wp2_with fail
            go_roundw
            case rel => exact ⟨k + 1, by omega, by go_num, by rw [Xhrb.out], by first | rfl | trivial⟩
            case measure => simp [intOf]; omega
          · have hkb : (L.kind != 1) = true := bne_iff_ne.2 hk1
            have hg3 := hg2 hk1
            clear hg2 hk1
            have Xhrb := Lib.hid hrb
            have Xhra := Lib.hid hra
            clear hrb hra
            have Xhgo := Lib.hid hgo
            clear hgo
            go_wp2_with fail
            refine (Xhgo.out _).mono ?_
            rintro e w9 ⟨rfl, hw9⟩; have hw9 := hw9.symm; subst hw9
            go_wp2_with fail
            go_roundw
            case rel => exact ⟨k + 1, by omega, by go_num, by rw [Xhrb.out], by first | rfl | trivial⟩
            case measure => simp [intOf]; omega
        · obtain rfl : k = ss.length := by omega
          by_cases h6 : 6 < body.length
          · have h61 : (6 : Int) < body.length := by omega
            go_wp2_with fail
            go_ret
            exact ⟨rfl, Xback.out _ Xkq4.out⟩
          · have h61 : ¬ (6 : Int) < body.length := by omega
            obtain ⟨c2, t, hld, hrt, hcl⟩ := Xhmn.out.least (show body.length ≤ 6 by omega)
            have g22 := Xfle.out _ (Xback.out _ Xkq4.out)
            have hst : sizedS t := by
              have h := least_sized (l := l) Xhsz.out
              rw [hld] at h
              exact h
            rw [hld] at g22
            unfold planV at g22
            simp only at g22
            have hfc := Xhmn.out.fin
            simp only [Xhc.out] at hcl hfc
            have hle : (FloatKind.f64.format.order c2 c == some .lt || FloatKind.f64.format.order c2 c == some .eq) = true := by rw [leq_fin (Nat.lt_of_le_of_lt hcl hfc) hfc]; exact decide_eq_true hcl
            clear hld hcl hfc
            have Xg22 := Lib.hid g22
            have Xhle := Lib.hid hle
            have Xhrt := Lib.hid hrt
            have Xhst := Lib.hid hst
            clear g22 hle hrt hst
            go_wp2_with fail
            refine Xg22.out.mono ?_
            rintro e W8 ⟨vqh, vqb, vqs, rfl, oq, k8⟩
            try simp only at oq
            obtain ⟨aqh, cqh, rfl⟩ := own_form oq.1.1
            obtain ⟨aqb, cqb, rfl⟩ : ∃ a c, vqb = .slice a body.length c := by
              obtain ⟨ps, hps, h, _⟩ := oq.1.2
              exact own_form h
            obtain ⟨aqs, cqs, rfl⟩ := oq.2.form
            try simp only at oq
            have hz8 := k8.size
            clear n0 n1 n2 b0 b1 b2 b3 lN lB
            have kq5 : Keep (fun b => b < Wb.heap.size) Wb W8 := Xkq4.out.trans (k8.mono fun b _ h => by have := Xkq4.out.size; omega)
            have Xoq := Lib.hid oq
            have Xk8 := Lib.hid k8
            have Xkq5 := Lib.hid kq5
            clear oq k8 kq5
            go_upto_region 22 with fail
            obtain ⟨E, hE⟩ : ∃ E, W8.heap.size = E := ⟨_, rfl⟩
            obtain ⟨W9, hW9⟩ : ∃ W3, W8.alloc (.cells #[.string pr, .slice aqh args.length cqh, .slice aqb body.length cqb, .slice aqs t.length cqs] 34) = W3 := ⟨_, rfl⟩
            have k9 : Keep (fun _ => True) W8 W9 := by rw [← hW9]; exact Keep.alloc _ _ _
            have q9 := new_block W8 (.cells #[.string pr, .slice aqh args.length cqh, .slice aqb body.length cqb, .slice aqs t.length cqs] 34)
            rw [hW9, hE] at q9
            rw [hW9, hE]
            have hz9 := k9.size
            have oq9 := Xoq.out.1.keep k9 (fun _ _ _ => trivial)
            have ot9 := Xoq.out.2.keep k9 (fun _ _ _ _ _ _ => trivial)
            have kq6 : Keep (fun b => b < Wb.heap.size) Wb W9 := Xkq5.out.trans (k9.mono fun _ _ _ => trivial)
            have plq : ∀ W, Keep (fun b => b < W9.heap.size) W9 W → PlanIn W.heap.size W (.slice aqh args.length cqh) (.slice aqb body.length cqb) (.slice aqs t.length cqs) ⟨⟨⟨pr, args⟩, body⟩, t⟩ := fun W hK => ⟨(oq9.keep hK fun b _ h => h).rule Xhsz.out, (ot9.keep hK fun b cs t _ h _ => heap_lt h).steps Xhst.out⟩
            have fr9 := right_any W9.heap.size ⟨⟨⟨pr, args⟩, body⟩, t⟩ _ _ _ W9 (plq W9 (Keep.refl _ _)) (Nat.le_refl _)
            unfold planV at fr9
            simp only [Xhrt.out] at fr9
            have fs9 := fun W (hK : Keep (fun b => b < W9.heap.size) W9 W) => sameRules_eq W.heap.size ⟨⟨pr, args⟩, body⟩ _ _ _ _ W (plq W hK).1 (Xrin.out W (kq6.trans (hK.mono fun b _ h => by have := kq6.size; omega))) (Nat.le_refl _)
            unfold ruleV at fs9
            simp only at fs9
            obtain ⟨n0, n1, n2, b0, b1, b2, b3, lN, lB⟩ := Xhcells.out W9 kq6
            have e0 := cells_of_block q9 0 _ rfl
            have e1 := cells_of_block q9 1 _ rfl
            have e2 := cells_of_block q9 2 _ rfl
            have e3 := cells_of_block q9 3 _ rfl
            simp only [Nat.zero_add] at e0 e1 e2 e3
            have lE := heap_lt q9
            clear hW9 k9 oq9 ot9 plq
            have Xq9 := Lib.hid q9
            have Xfr9 := Lib.hid fr9
            have Xfs9 := Lib.hid fs9
            have Xkq6 := Lib.hid kq6
            clear q9 fr9 fs9 kq6
            go_wp2_with fail
            refine (lawNum_any _ W9).mono ?_
            rintro e w9 ⟨rfl, hw9⟩; have hw9 := hw9.symm; subst hw9
            go_wp2_with fail
            refine Xfr9.out.mono ?_
            rintro e W10 ⟨rfl, hk⟩
            have g10 := Xfs9.out W10 hk
            have q10 := hk.heap Xq9.out lE
            have k10 := hk
            clear e0 e1 e2 e3 lE
            have Xg10 := Lib.hid g10
            have Xq10 := Lib.hid q10
            have Xk10 := Lib.hid k10
            clear g10 q10 k10
            have kq7 : Keep (fun b => b < Wb.heap.size) Wb W10 := Xkq6.out.trans (hk.mono fun b _ h => by have := Xkq6.out.size; omega); clear n0 n1 n2 b0 b1 b2 b3 lN lB hk; obtain ⟨n0, n1, n2, b0, b1, b2, b3, lN, lB⟩ := Xhcells.out W10 kq7
            have e0 := cells_of_block Xq10.out 0 _ rfl
            have e1 := cells_of_block Xq10.out 1 _ rfl
            have e2 := cells_of_block Xq10.out 2 _ rfl
            have e3 := cells_of_block Xq10.out 3 _ rfl
            simp only [Nat.zero_add] at e0 e1 e2 e3
            have lE := heap_lt Xq10.out
            have Xkq7 := Lib.hid kq7
            clear kq7
            go_wp2_with fail
            refine Xg10.out.mono ?_
            rintro e W11 ⟨rfl, hk⟩
            have kq8 : Keep (fun b => b < Wb.heap.size) Wb W11 := Xkq7.out.trans (hk.mono fun b _ h => by have := Xkq7.out.size; omega); clear n0 n1 n2 b0 b1 b2 b3 lN lB hk; obtain ⟨n0, n1, n2, b0, b1, b2, b3, lN, lB⟩ := Xhcells.out W11 kq8
            have Xkq8 := Lib.hid kq8
            clear kq8
            go_wp2_with fail
            go_ret
            refine ⟨?_, Xback.out _ Xkq8.out⟩
            rw [Xhle.out]
            rfl
  · have hM1 : makeD ⟨⟨pr, args⟩, body⟩ l first = (noPlan, ea) := by rw [XhM0.out, if_pos he0]
    have hea2 : ea = 2 ∨ ea = 14 := by
      have h := Xhea.out
      unfold askedD at h
      split at h
      · exact .inl h.symm
      · split at h
        · exact .inr h.symm
        · exact absurd h.symm he0
    rw [hM1] at g1
    unfold planV at g1
    simp only [noPlan] at g1
    have hnz : ((ea : Int) != 0) = true := bne_iff_ne.2 he0
    clear hM1 he0
    have Xg1 := Lib.hid g1
    clear g1
    rcases hea2 with rfl | rfl
    all_goals
      go_wp2_with fail
      refine Xg1.out.mono ?_
      rintro e W2 ⟨vph, vpb, vps, rfl, op, k2⟩
      obtain ⟨aph, cph, rfl⟩ := own_form op.1.1
      obtain ⟨apb, cpb, rfl⟩ : ∃ a c, vpb = .slice a 0 c := by
        obtain ⟨ps, hps, h, _⟩ := op.1.2
        exact own_form h
      obtain ⟨aps, cps, rfl⟩ := op.2.form
      try simp only [List.length_nil]
      have kw2 : Keep (fun b => b < w.heap.size) w W2 := Xkw1.out.trans (k2.mono fun b _ h => by have := XhN.out; omega)
      clear op k2 n0 n1 n2
      have Xkw2 := Lib.hid kw2
      clear kw2
      go_upto_region 4 with fail
      obtain ⟨B, hB⟩ : ∃ B, W2.heap.size = B := ⟨_, rfl⟩
      obtain ⟨W3, hW3⟩ : ∃ W3, W2.alloc (.cells #[.string ⟨#[]⟩, .slice aph 0 cph, .slice apb 0 cpb, .slice aps 0 cps] 34) = W3 := ⟨_, rfl⟩
      have k3 : Keep (fun _ => True) W2 W3 := by rw [← hW3]; exact Keep.alloc _ _ _
      have q3 := new_block W2 (.cells #[.string ⟨#[]⟩, .slice aph 0 cph, .slice apb 0 cpb, .slice aps 0 cps] 34)
      rw [hW3, hB] at q3
      rw [hW3, hB]
      have b3 := cells_of_block q3 3 _ rfl
      simp only [Nat.zero_add] at b3
      have lB := heap_lt q3
      have kend : Keep (fun b => b < w.heap.size) w W3 := Xkw2.out.trans (k3.mono fun _ _ _ => trivial)
      clear hW3 k3 q3
      have Xkend := Lib.hid kend
      clear kend
      go_wp2_with fail
      refine (lawNum_any _ W3).mono ?_
      rintro e w9 ⟨rfl, hw9⟩; have hw9 := hw9.symm; subst hw9
      go_wp2_with fail
      refine (lawNum_any _ W3).mono ?_
      rintro e w9 ⟨rfl, hw9⟩; have hw9 := hw9.symm; subst hw9
      go_wp2_with fail
      try (refine (lawNum_any _ W3).mono ?_
           rintro e w9 ⟨rfl, hw9⟩; have hw9 := hw9.symm; subst hw9
           go_wp2_with fail)
      go_ret
      exact ⟨rfl, Xkend.out⟩
end Go.Proofs
