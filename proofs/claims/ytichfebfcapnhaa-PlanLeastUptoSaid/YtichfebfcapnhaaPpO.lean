/- Layer 16 (plan): the document's Make. -/
import Derived.Test.YtichfebfcapnhaaProg
import Derived.Test.YtichfebfcapnhaaPpN
import Derived.Test.YtichfebfcapnhaaPpGToPpH
import Derived.Test.YtichfebfcapnhaaPnRToPnS
import Derived.Deep.CutRange
import Derived.Deep.DeepCutAuto
import Derived.Deep.RegionHeld3
namespace Go.Proofs
open Go.RowKit Go.Ink Go.Flt
set_option linter.unusedVariables false
set_option linter.unusedSimpArgs false
attribute [local go_sem] Oper.semAt_some

theorem mkK_len {r : RuleD} {sizes : List SizeD} {first : Int} (hF : formedB r = true) (hu : usableB sizes = true) (hs : safeP r = true) (hf : badFirst r first = false) (j : Nat) (hj : j ≤ r.body.length) : (mkGo r sizes first j).K.length ≤ 16 * j := by
  induction j with
  | zero => simp [mkGo]
  | succ j ih =>
    have ih := ih (by omega)
    obtain ⟨k, hk1, hk2, hk3, hk4⟩ := choose_good (sizes := sizes) hs hf (show j < r.body.length by omega) (mk_ok hu hs hf j (by omega)) (fun h => by subst h; rfl)
    have e : mkGo r sizes first (j + 1) = stepM r sizes (k : Int) (mkGo r sizes first j) := by
      show stepM r sizes (chooseM r sizes first j (mkGo r sizes first j)) (mkGo r sizes first j) = _
      rw [hk1]
    rw [e]
    unfold stepM
    simp only [Int.toNat_natCast]
    rw [learn_step, List.length_append]
    have hm : r.body.getD k default ∈ r.body := by
      rw [List.getD_eq_getElem?_getD, List.getElem?_eq_getElem hk2]
      exact List.getElem_mem _
    have := formed_new hF hm (mkGo r sizes first j).K (k : Int)
    omega
theorem ruleIn_no (n : Nat) (w : World) : RuleIn n w (.slice none 0 0) (.slice none 0 0) noPlan.rule :=
  ⟨⟨none, 0, rfl, by decide, ⟨by decide, by decide⟩, fun k x hx => by simp [noPlan] at hx⟩, ⟨none, 0, rfl, by decide, ⟨by decide, by decide⟩, fun k x hx => by simp [noPlan] at hx⟩⟩

set_option maxRecDepth 100000 in
set_option maxHeartbeats 4000000 in
theorem refMake_any (n : Nat) (r : RuleD) (hsm : smallR r) (sh sb : Value) (l : List SizeD) (sv : Value) (first : Int) (w : World) (hr : RuleIn n w sh sb r) (hl : SizesIn n w sv l) (hn : n ≤ w.heap.size) :
    Calls Try.prog 13 #[ruleV r sh sb, sv, .int .i64 first] w fun e w' => ∃ vh vb vs, e = .returned (.tuple #[planV (makeD r l first).1 vh vb vs, .int .i64 (makeD r l first).2]) ∧ RuleIn n w' vh vb (makeD r l first).1.rule ∧ StepsOwn w.heap.size w' vs (makeD r l first).1.steps ∧ Keep (fun b => b < w.heap.size) w w' := by
  have hM : makeD r l first = if askedD r l (badFirst r first) ≠ 0 then (noPlan, askedD r l (badFirst r first)) else (⟨r, (mkGo r l first r.body.length).steps⟩, 0) := rfl
  have hasked := fun arg W (hK : Keep (fun b => b < w.heap.size) w W) => refAsked_any n r hsm sh sb l sv arg W (hr.keep (hK.mono fun b _ h => by omega)) (hl.keep (hK.mono fun b _ h => by omega)) (by have := hK.size; omega)
  obtain ⟨hh, hb⟩ := id hr
  obtain ⟨⟨pr, args⟩, body⟩ := r
  unfold ruleV at hasked ⊢
  simp only at hh hb hasked ⊢
  obtain ⟨aa, ca, rfl, hla, -, -⟩ := id hh
  obtain ⟨ab, cb, rfl, hlb, hcb, heb⟩ := id hb
  obtain ⟨asl, csl, rfl, hls, -, -⟩ := id hl
  obtain ⟨N, hN⟩ : ∃ N, w.heap.size = N := ⟨_, rfl⟩
  obtain ⟨bad, hbad⟩ : ∃ b, badFirst ⟨⟨pr, args⟩, body⟩ first = b := ⟨_, rfl⟩
  have hnN : n ≤ N := by omega
  clear hh hb
  have XhM := Lib.hid hM
  have Xhasked := Lib.hid hasked
  have Xheb := Lib.hid heb
  have Xhl := Lib.hid hl
  have Xhbad := Lib.hid hbad
  have XhN := Lib.hid hN
  have Xhr := Lib.hid hr
  clear hM hasked heb hl hbad hN hr
  go_enter Try.func13, Try.ntmps13
  go_upto_region 1 with fail
  refine wp_abs (fun W => Keep (fun b => b < w.heap.size) w W ∧ W.heap.size = w.heap.size + 1 + 1 ∧ W.heap[w.heap.size]? = some (.cells #[.string pr, .slice aa args.length ca, .slice ab body.length cb] 28 (0, 0)) ∧
    W.heap[w.heap.size + 1]? = some (.cells #[.string ⟨#[]⟩, .slice none 0 0, .slice none 0 0, .slice none 0 0] 34 (0, 0))) ⟨(Keep.alloc _ _ _).trans (Keep.alloc _ _ _), by simp, by simp only [alloc_get, World.size_alloc]; simp, by simp only [alloc_get, World.size_alloc]; simp⟩ ?_
  rintro W0 ⟨k0, z0, a1, a2⟩
  rw [XhN.out] at k0 z0 a1 a2 ⊢
  have c0 := cells_of_block a1 0 _ rfl
  have c1 := cells_of_block a1 1 _ rfl
  have c2 := cells_of_block a1 2 _ rfl
  simp only [Nat.zero_add] at c0 c1 c2
  have hNl : N < W0.heap.size := by omega
  have hNl1 : N + 1 < W0.heap.size := by omega
  have Xk0 := Lib.hid k0
  have Xa1 := Lib.hid a1
  have Xa2 := Lib.hid a2
  clear k0 a1 a2
  go_cut [8] from 17 to 38 (fun c wx => c = .bool bad ∧ wx = W0)
  case first =>
    have hB := Xhbad.out
    unfold badFirst at hB
    by_cases h1 : first < -1
    · rw [decide_eq_true h1, Bool.true_or, Bool.true_or] at hB
      subst hB
      go_wp2_with fail
      go_meet
      exact ⟨rfl, rfl⟩
    · rw [decide_eq_false h1, Bool.false_or] at hB
      by_cases h2 : (body.length : Int) ≤ first
      · simp only [decide_eq_true h2, Bool.true_or] at hB
        subst hB
        go_wp2_with fail
        go_meet
        exact ⟨rfl, rfl⟩
      · simp only [decide_eq_false h2, Bool.false_or] at hB
        by_cases h3 : 0 ≤ first
        · obtain ⟨k, rfl⟩ : ∃ k : Nat, first = k := ⟨first.toNat, by omega⟩
          rw [decide_eq_true h3, Bool.true_and, Int.toNat_natCast] at hB
          obtain ⟨x, hx⟩ : ∃ x, body[k]? = some x := ⟨_, List.getElem?_eq_getElem (by omega)⟩
          obtain ⟨b, o, rfl, hbn, sa, hcl, hsa⟩ := Xheb.out k x hx
          have d0 := Xk0.out.cell (hcl 0 _ rfl) (show b < N by have := XhN.out; omega)
          simp only [Nat.add_zero] at d0
          have hbw : b < W0.heap.size := by have := XhN.out; omega
          have hgd : body.getD k default = x := by rw [List.getD_eq_getElem?_getD, hx]; rfl
          rw [hgd] at hB
          have hkb : (x.kind != 1) = bad := by rw [← hB]; by_cases h : x.kind = 1 <;> simp [h]
          clear hB hcl hsa hx hgd
          cases bad
          all_goals go_wp2_with fail
          all_goals go_meet
          all_goals exact ⟨rfl, rfl⟩
        · rw [decide_eq_false h3, Bool.false_and] at hB
          subst hB
          go_wp2_with fail
          go_meet
          exact ⟨rfl, rfl⟩
  case rest =>
    obtain ⟨rfl, hwc⟩ := hcut
    subst hwc
    have hk1 := Xhasked.out bad wc (Xk0.out.mono fun b _ h => by have := XhN.out; omega)
    obtain ⟨ea, hea⟩ : ∃ e, askedD ⟨⟨pr, args⟩, body⟩ l bad = e := ⟨_, rfl⟩
    rw [hea] at hk1
    by_cases he0 : ea = 0
    · subst he0
      have hbf : bad = false := by
        cases bad with
        | false => rfl
        | true => unfold askedD at hea; rw [Bool.or_true, if_pos rfl] at hea; exact absurd hea (by decide)
      subst hbf
      have hM2 : makeD ⟨⟨pr, args⟩, body⟩ l first = (⟨⟨⟨pr, args⟩, body⟩, (mkGo ⟨⟨pr, args⟩, body⟩ l first body.length).steps⟩, 0) := by
        rw [XhM.out, Xhbad.out, hea]; rfl
      have hgood : formedB ⟨⟨pr, args⟩, body⟩ = true ∧ usableB l = true ∧ safeP ⟨⟨pr, args⟩, body⟩ = true := by
        unfold askedD at hea
        cases h1 : formedB ⟨⟨pr, args⟩, body⟩ <;> cases h2 : usableB l <;> cases h3 : safeP ⟨⟨pr, args⟩, body⟩ <;> rw [h1, h2, h3] at hea <;> first | exact ⟨rfl, rfl, rfl⟩ | (exfalso; revert hea; decide)
      clear hea
      have XhM2 := Lib.hid hM2
      have Xhk1 := Lib.hid hk1
      have Xhgood := Lib.hid hgood
      clear hM2 hk1 hgood
      go_wp2_with fail
      refine Xhk1.out.mono ?_
      rintro e W1 ⟨rfl, k1⟩
      have hz1 := k1.size
      have e0 := k1.cell c0 hNl
      have e1 := k1.cell c1 hNl
      have e2 := k1.cell c2 hNl
      have hl1 : N < W1.heap.size := by omega
      have hmk := fun u => run_makeBools body.length hlb u
      clear c0 c1 c2
      have Xk1 := Lib.hid k1
      clear k1
      go_upto_region 7 with fail
      refine wp_abs (fun W => Keep (fun b => b < W1.heap.size) W1 W ∧ W.heap.size = W1.heap.size + 1 + 1 ∧ W.heap[W1.heap.size]? = some (.cells #[.string pr, .slice aa args.length ca, .slice ab body.length cb, .slice none 0 0] 34 (0, 0)) ∧
        W.heap[W1.heap.size + 1]? = some (.cells ((List.replicate body.length false).map Value.bool).toArray 4 (0, 0)))
        ⟨(Keep.alloc _ _ _).trans (Keep.alloc _ _ _), by simp, by simp only [alloc_get, World.size_alloc]; simp, by rw [made_eq]; simp only [alloc_get, World.size_alloc]; simp⟩ ?_
      rintro W3 ⟨k3, z3, p1, t1⟩
      clear hmk e0 e1 e2
      have b2 : W1.heap[N]? = some (.cells #[.string pr, .slice aa args.length ca, .slice ab body.length cb] 28 (0, 0)) := Xk1.out.heap Xa1.out hNl
      have b3 : W1.heap[N + 1]? = some (.cells #[.string ⟨#[]⟩, .slice none 0 0, .slice none 0 0, .slice none 0 0] 34 (0, 0)) := Xk1.out.heap Xa2.out hNl1
      have a3 := k3.heap b2 hl1
      have a4 := k3.heap b3 (show N + 1 < W1.heap.size by omega)
      have kw3 : Keep (fun b => b < N) w W3 := (Xk0.out.trans (Xk1.out.mono fun b _ h => by omega)).trans (k3.mono fun b _ h => by omega)
      obtain ⟨P, hP⟩ : ∃ P, W1.heap.size = P := ⟨_, rfl⟩
      rw [hP] at z3 p1 t1 ⊢
      have hPN : N + 1 < P := by omega
      clear b2 b3 k3 hP
      have Xp1 := Lib.hid p1
      have Xt1 := Lib.hid t1
      have Xa3 := Lib.hid a3
      have Xa4 := Lib.hid a4
      have Xkw3 := Lib.hid kw3
      clear p1 t1 a3 a4 kw3
      go_wp2_with fail
      go_loopw [12, 13, 14] (fun x12 x13 i' wr => ∃ (j : Nat) (vs : Value), j ≤ body.length ∧ i' = .int .i64 (j : Int) ∧ x13 = .float .f64 (mkGo ⟨⟨pr, args⟩, body⟩ l first j).rows ∧ Keep (fun b => b < P) W3 wr ∧
        wr.heap[P]? = some (.cells #[.string pr, .slice aa args.length ca, .slice ab body.length cb, vs] 34 (0, 0)) ∧
        wr.heap[P + 1]? = some (.cells ((mkGo ⟨⟨pr, args⟩, body⟩ l first j).taken.map Value.bool).toArray 4 (0, 0)) ∧
        wr.ownsRow (P + 1 + 1) 9 1 x12 (mkGo ⟨⟨pr, args⟩, body⟩ l first j).K.length ((mkGo ⟨⟨pr, args⟩, body⟩ l first j).K.map .string) ∧ StepsK (P + 1 + 1) wr vs (mkGo ⟨⟨pr, args⟩, body⟩ l first j).steps x12 ∧ P + 1 + 1 ≤ wr.heap.size) (fun _ _ i _ => body.length - (intOf i).toNat)
      case atStart => exact ⟨0, _, by omega, rfl, rfl, Keep.refl _ _, Xp1.out, Xt1.out, World.ownsRow_nil _ _ _ _, StepsK.nil _ _ _, by omega⟩
      case round =>
        obtain ⟨j, vs, hj, rfl, rfl, hK, hP1, hT, hkn, hsk, hsz⟩ := hrel
        have hok := mk_ok (first := first) Xhgood.out.2.1 Xhgood.out.2.2 Xhbad.out j hj
        have hKl := mkK_len (first := first) Xhgood.out.1 Xhgood.out.2.1 Xhgood.out.2.2 Xhbad.out j hj
        have hf256 := (formed_args Xhgood.out.1).1
        simp only at hf256
        obtain ⟨avs, cvs, rfl⟩ := hsk.own.form
        rw [hok.stp] at hP1 hsk
        have hj0 : (0 : Int) ≤ j := by omega
        have a5 := hK.heap Xa3.out (show N < P by omega)
        have c0 := cells_of_block a5 0 _ rfl
        have c1 := cells_of_block a5 1 _ rfl
        have c2 := cells_of_block a5 2 _ rfl
        simp only [Nat.zero_add] at c0 c1 c2
        have hPl := heap_lt hP1
        have hNw : N < wr.heap.size := by omega
        have kw : Keep (fun b => b < N) w wr := Xkw3.out.trans (hK.mono fun b _ h => by omega)
        have hStepLen := hok.stp
        obtain ⟨s, hs⟩ : ∃ s, mkGo ⟨⟨pr, args⟩, body⟩ l first j = s := ⟨_, rfl⟩
        rw [hs] at hT hkn hsk hok hStepLen hKl ⊢
        have hKlen : s.K.length ≤ 1073741824 := by omega
        by_cases hlt : j < body.length
        · have hlt1 : (j : Int) < body.length := by omega
          have hch := choose_good (sizes := l) Xhgood.out.2.2 Xhbad.out hlt hok (fun h => by subst h; rw [← hs]; rfl)
          obtain ⟨kb, hkb1, hkb2, hkb3, hkb4⟩ := hch
          obtain ⟨ak, ck, rfl⟩ := own_form hkn
          have XhK := Lib.hid hK
          have XhP1 := Lib.hid hP1
          have XhT := Lib.hid hT
          have Xhkn := Lib.hid hkn
          have Xhsk := Lib.hid hsk
          have Xhok := Lib.hid hok
          have Xkw := Lib.hid kw
          have Xhs := Lib.hid hs
          have XhStepLen := Lib.hid hStepLen
          have Xhkb1 := Lib.hid hkb1
          have Xhkb3 := Lib.hid hkb3
          have Xhkb4 := Lib.hid hkb4
          have Xa5 := Lib.hid a5
          clear hK hP1 hT hkn hsk hok kw hs hStepLen hkb1 hkb3 hkb4 a5
          go_upto_region 13 with fail
          go_cut [66] from 53 to 98 (fun c wx => c = .bool (decide (0 < j ∨ first < 0)) ∧ wx = wr)
          case first =>
            by_cases hc1 : 0 < j
            · have hj1 : 0 < (j : Int) := by omega
              have hdc : decide (0 < j ∨ first < 0) = true := decide_eq_true (.inl hc1)
              have Xhdc := Lib.hid hdc
              clear hdc
              go_wp2_with fail
              go_meet
              exact ⟨by rw [Xhdc.out], rfl⟩
            · obtain rfl : j = 0 := by omega
              have hdc : decide (0 < 0 ∨ first < 0) = decide (first < 0) := by rw [decide_eq_decide]; omega
              have Xhdc := Lib.hid hdc
              clear hdc
              go_wp2_with fail
              go_meet
              exact ⟨by rw [Xhdc.out], rfl⟩
          case rest =>
            obtain ⟨rfl, hwc⟩ := hcut
            have hwc := hwc.symm
            subst hwc
            obtain ⟨bc, hbc⟩ : ∃ b, decide (0 < j ∨ first < 0) = b := ⟨_, rfl⟩
            rw [hbc]
            have Xhbc := Lib.hid hbc
            clear hbc
            obtain ⟨Wo, hWo⟩ : ∃ W, W = wr := ⟨_, rfl⟩
            subst hWo
            go_upto_if 66 with fail
            go_cut [15] from 53 to 98 (fun c wx => c = .int .i64 (kb : Int) ∧ Keep (fun b => b < Wo.heap.size) Wo wx)
            case first =>
              cases bc
              · have hkf : first = (kb : Int) := by
                  have h1 := Xhkb1.out
                  unfold chooseM at h1
                  rwa [if_neg (of_decide_eq_false Xhbc.out)] at h1
                subst hkf
                go_wp2_with fail
                go_meet
                exact ⟨rfl, Keep.refl _ _⟩
              · have hkp : (scan s.K s.rows l body s.taken body.length).1 = (kb : Int) := by
                  have h1 := Xhkb1.out
                  unfold chooseM at h1
                  rw [if_pos (of_decide_eq_true Xhbc.out)] at h1
                  exact h1
                have hnx := refNext_any n ⟨⟨pr, args⟩, body⟩ (.slice aa args.length ca) (.slice ab body.length cb) (P + 1) s.taken s.K (.slice ak s.K.length ck) s.rows Xhok.out.row l Xhgood.out.2.1 (.slice asl l.length csl) Wo
                  (Xhr.out.keep (Xkw.out.mono fun b _ h => by have := XhN.out; omega)) (Xhl.out.keep (Xkw.out.mono fun b _ h => by have := XhN.out; omega)) (own_strs Xhkn.out hKlen) XhT.out Xhok.out.len (by omega)
                unfold ruleV at hnx
                simp only [hkp] at hnx
                have Xhkp := Lib.hid hkp
                have Xhnx := Lib.hid hnx
                clear hkp hnx
                go_wp2_with fail
                refine Xhnx.out.mono ?_
                rintro e W4 ⟨rfl, k4⟩
                go_wp2_with fail
                go_meet
                exact ⟨rfl, k4⟩
            case rest =>
              obtain ⟨rfl, hkx⟩ := hcut
              clear hwc
              have hzx := hkx.size
              have hNx : N < wc.heap.size := by omega
              have d0 := hkx.cell c0 hNw
              have d1 := hkx.cell c1 hNw
              have d2 := hkx.cell c2 hNw
              have hTx := hkx.heap XhT.out (heap_lt XhT.out)
              have hPx := hkx.heap XhP1.out hPl
              have hknx := own_kept Xhkn.out hkx (fun b hb => (World.ownsRow.lt Xhkn.out b hb).2)
              have hskx := Xhsk.out.keep hkx (fun b cs t h h2 _ => heap_lt h2)
              have kwx : Keep (fun b => b < N) w wc := Xkw.out.trans (hkx.mono fun b _ h => by omega)
              have hKx : Keep (fun b => b < P) W3 wc := XhK.out.trans (hkx.mono fun b _ h => by omega)
              obtain ⟨x, hx⟩ : ∃ x, body[kb]? = some x := ⟨_, List.getElem?_eq_getElem hkb2⟩
              obtain ⟨b, o, rfl, hb, sa, hcl, hsa⟩ := Xheb.out kb x hx
              have hgd : body.getD kb default = x := by rw [List.getD_eq_getElem?_getD, hx]; rfl
              have hrp : readyP s.K x = true := by
                have h4 := Xhkb4.out
                simp only at h4
                rw [hgd] at h4
                rcases h4 with h | h
                · unfold readyP; rw [decide_eq_true h]; rfl
                · exact h
              have hst := refStep_any wc.heap.size s.K (.slice ak s.K.length ck) ⟨⟨pr, args⟩, body⟩ (.slice aa args.length ca) (.slice (some ⟨b, o, none⟩) body.length cb) kb x hx wc (own_strs hknx hKlen) ((Xhr.out.keep (kwx.mono fun b _ h => by omega)).wider (by omega)) (Nat.le_refl _)
              rw [step_same hrp kb] at hst
              unfold ruleV at hst
              simp only at hst
              have hkd := formed_kind Xhgood.out.1 (List.mem_of_getElem? hx)
              have hnew16 := formed_new Xhgood.out.1 (List.mem_of_getElem? hx) s.K (kb : Int)
              have hlrn := learn_step s.K x (kb : Int)
              obtain ⟨hsl1, hsl2, hsl3⟩ := step_len s.K x kb
              have hslit := step_lit s.K x kb
              obtain ⟨st, hste⟩ : ∃ st, stepP s.K x kb = st := ⟨_, rfl⟩
              rw [hste] at hst hsl1 hsl2 hsl3 hslit hnew16 hlrn
              obtain ⟨slit, sbd, snw⟩ := st
              simp only at hst hsl1 hsl2 hsl3 hslit hnew16 hlrn
              subst hslit
              obtain ⟨asa, csa, rfl, hlx, -, -⟩ := id hsa
              have g : ∀ j v, (litCells x (.slice asa x.atom.args.length csa))[j]? = some v → wc.cell? ⟨b, o + kb * 7 + j, none⟩ = some v := fun j v h => kwx.cell (hcl j v h) (show b < N by omega)
              have m0 := g 0 _ rfl
              have m1 := g 1 _ rfl
              have m2 := g 2 _ rfl
              have m3 := g 3 _ rfl
              have m4 := g 4 _ rfl
              have m5 := g 5 _ rfl
              have m6 := g 6 _ rfl
              simp only [Nat.add_zero] at m0
              have hbw : b < wc.heap.size := by omega
              have hbN : b < N := by omega
              have hkbi : (kb : Int) < body.length := by have := hkb2; simp only at this; omega
              have hkb0 : (0 : Int) ≤ kb := by omega
              have hkbo : ∀ g, Value.ownBlock (.slice ak s.K.length ck) = some g → P + 1 + 1 ≤ g ∧ g < wc.heap.size := fun g hg => World.ownsRow.lt hknx g hg
              clear g hcl hsa hx c0 c1 c2 hrp
              have Xhkx := Lib.hid hkx
              have XhTx := Lib.hid hTx
              have XhPx := Lib.hid hPx
              have Xhknx := Lib.hid hknx
              have Xhskx := Lib.hid hskx
              have Xkwx := Lib.hid kwx
              have XhKx := Lib.hid hKx
              have Xhst := Lib.hid hst
              have Xhgd := Lib.hid hgd
              have Xhkd := Lib.hid hkd
              have Xhste := Lib.hid hste
              have Xhsl3 := Lib.hid hsl3
              have Xhkbo := Lib.hid hkbo
              have Xhlrn := Lib.hid hlrn
              clear hkx hTx hPx hknx hskx kwx hKx hst hgd hkd hste hsl3 hkbo hlrn
              go_wp2_with fail
              refine Xhst.out.mono ?_
              rintro e W6 ⟨vb, vn, rfl, ob, on, k6⟩
              have hz6 := k6.size
              obtain ⟨abx, cbx, rfl⟩ := own_form ob
              obtain ⟨anx, cnx, rfl⟩ := own_form on
              obtain ⟨W7, hW7⟩ : ∃ W7, W6.alloc (.cells #[.int .i64 (kb : Int), .slice abx sbd.length cbx, .slice anx snw.length cnx] 73) = W7 := ⟨_, rfl⟩
              have k7 : Keep (fun _ => True) W6 W7 := by rw [← hW7]; exact Keep.alloc _ _ _
              have z7 : W7.heap.size = W6.heap.size + 1 := by rw [← hW7]; simp
              have bD := new_block W6 (.cells #[.int .i64 (kb : Int), .slice abx sbd.length cbx, .slice anx snw.length cnx] 73)
              rw [hW7] at bD
              obtain ⟨D, hD⟩ : ∃ D, W6.heap.size = D := ⟨_, rfl⟩
              have k67 : Keep (fun b => b < wc.heap.size) wc W7 := k6.trans (k7.mono fun _ _ _ => trivial)
              have hNl7 : N < W7.heap.size := by omega
              have e2 := k67.cell d2 hNx
              have n0 := k67.cell m0 hbw
              have n1 := k67.cell m1 hbw
              have n2 := k67.cell m2 hbw
              have n3 := k67.cell m3 hbw
              have n4 := k67.cell m4 hbw
              have n5 := k67.cell m5 hbw
              have n6 := k67.cell m6 hbw
              have ob7 := own_kept ob k7 (fun _ _ => trivial)
              have on7 := own_kept on k7 (fun _ _ => trivial)
              rw [hD] at bD z7
              have p0 := cells_of_block bD 0 _ rfl
              have p1 := cells_of_block bD 1 _ rfl
              have p2 := cells_of_block bD 2 _ rfl
              simp only [Nat.zero_add] at p0 p1 p2
              have hDl : D < W7.heap.size := by omega
              have hbW7 : b < W7.heap.size := by omega
              have hDx : wc.heap.size ≤ D := by omega
              have kw7 : Keep (fun b => b < N) w W7 := Xkwx.out.trans (k67.mono fun b _ h => by omega)
              have hbh := refBehind_any (n := W7.drew.heap.size) s.rows Xhok.out.row x (.slice asa x.atom.args.length csa) ⟨(kb : Int), sbd, snw⟩ (.slice abx sbd.length cbx) (.slice anx snw.length cnx) l (.slice asl l.length csl) Xhgood.out.2.1 Xhsl3.out W7.drew ⟨_, _, _, rfl⟩ ⟨_, _, _, rfl⟩
                (SizesIn.wider (Xhl.out.keep ((kw7.trans (Keep.drew _ _)).mono fun b _ h => by omega)) (by simp; omega)) (own_ints (own_kept ob7 (Keep.drew (fun _ => True) _) (fun _ _ => trivial)) (by simp only; omega)) (Nat.le_refl _)
              unfold litV stepV at hbh
              simp only at hbh
              clear k6 k7 ob on d0 d1 d2 m0 m1 m2 m3 m4 m5 m6
              have XhW7 := Lib.hid hW7
              have XhD := Lib.hid hD
              have XbD := Lib.hid bD
              have Xk67 := Lib.hid k67
              have Xob7 := Lib.hid ob7
              have Xon7 := Lib.hid on7
              have Xkw7 := Lib.hid kw7
              have Xhbh := Lib.hid hbh
              clear hW7 hD bD k67 ob7 on7 kw7 hbh
              go_wp2_with fail
              rw [XhW7.out, XhD.out]
              go_region_held3 (fun W => W.cell? ⟨b, o + kb * 7, none⟩ = some (.int .i64 x.kind) ∧ W.cell? ⟨b, o + kb * 7 + 1, none⟩ = some (.string x.atom.pred) ∧ W.cell? ⟨b, o + kb * 7 + 2, none⟩ = some (.slice asa x.atom.args.length csa) ∧ W.cell? ⟨b, o + kb * 7 + 3, none⟩ = some (.bool x.left.var) ∧ W.cell? ⟨b, o + kb * 7 + 4, none⟩ = some (.string x.left.text) ∧ W.cell? ⟨b, o + kb * 7 + 5, none⟩ = some (.bool x.right.var) ∧ W.cell? ⟨b, o + kb * 7 + 6, none⟩ = some (.string x.right.text) ∧
                  W.cell? ⟨D, 0, none⟩ = some (.int .i64 (kb : Int)) ∧ W.cell? ⟨D, 1, none⟩ = some (.slice abx sbd.length cbx) ∧ W.cell? ⟨D, 2, none⟩ = some (.slice anx snw.length cnx) ∧ W.cell? ⟨N, 2, none⟩ = some (.slice (some ⟨b, o, none⟩) body.length cb))
                (first | (refine ⟨?_, ?_, ?_, ?_, ?_, ?_, ?_, ?_, ?_, ?_, ?_⟩ <;> assumption) | go_keep)
                ((go_at_call 46; refine Xhbh.out.mono ?_; rintro e w2 ⟨rfl, hp⟩; have n0' := hp.cell n0 (by simp; omega); have n1' := hp.cell n1 (by simp; omega); have n2' := hp.cell n2 (by simp; omega); have n3' := hp.cell n3 (by simp; omega); have n4' := hp.cell n4 (by simp; omega); have n5' := hp.cell n5 (by simp; omega); have n6' := hp.cell n6 (by simp; omega); have p0' := hp.cell p0 (by simp; omega); have p1' := hp.cell p1 (by simp; omega); have p2' := hp.cell p2 (by simp; omega); have e2' := hp.cell e2 (by simp; omega); have zp := hp.size; simp only [World.size_drew] at zp; clear n0 n1 n2 n3 n4 n5 n6 e2))
              have k72 : Keep (fun b => b < W7.heap.size) W7 w2 := (Keep.drew _ _).trans (hp.mono fun b _ h => h)
              have kx2 : Keep (fun b => b < wc.heap.size) wc w2 := Xk67.out.trans (k72.mono fun b _ h => by omega)
              have hT2 := kx2.heap XhTx.out (by have := heap_lt XhTx.out; exact this)
              have hP2 := kx2.heap XhPx.out (by have := heap_lt XhPx.out; exact this)
              have hkn2 := own_kept Xhknx.out kx2 (fun g hg => (Xhkbo.out g hg).2)
              have hsk2 := Xhskx.out.keep kx2 (fun b cs t _ h _ => heap_lt h)
              have ob2 := own_kept Xob7.out k72 (fun b hb => (World.ownsRow.lt Xob7.out b hb).2)
              have on2 := own_kept Xon7.out k72 (fun b hb => (World.ownsRow.lt Xon7.out b hb).2)
              have bD2 := k72.heap XbD.out hDl
              have hK2 : Keep (fun b => b < P) W3 w2 := XhKx.out.trans (kx2.mono fun b _ h => by omega)
              have htl : kb < (s.taken.map Value.bool).length := by rw [List.length_map, Xhok.out.len]; exact hkb2
              have htc := cells_of_block hT2 kb _ (List.getElem?_eq_getElem htl)
              have htf := box_free hT2 kb
              rw [Nat.zero_add] at htc
              have hTl := heap_lt hT2
              obtain ⟨W9, hW9⟩ : ∃ W9, w2.setCell ⟨P + 1, kb, none⟩ (.bool true) = W9 := ⟨_, rfl⟩
              have k9 : Keep (fun b => b ≠ P + 1) w2 W9 := by rw [← hW9]; exact Keep.setCell _ _ _ (by simp)
              have z9 : W9.heap.size = w2.heap.size := by rw [← hW9]; simp [World.setCell]
              have hT9 := set_at kb (.bool true) hT2
              rw [hW9] at hT9
              have hTmap : (s.taken.map Value.bool).toArray.setIfInBounds kb (.bool true) = ((s.taken.set kb true).map Value.bool).toArray := by
                rw [List.setIfInBounds_toArray, List.map_set]
              rw [hTmap] at hT9
              have hP9 := k9.heap hP2 (by omega)
              have hkn9 := own_kept hkn2 k9 (fun g hg => by have := (Xhkbo.out g hg).1; omega)
              have hsk9 := hsk2.keep k9 (fun b cs t h _ _ => by omega)
              have ob9 := own_kept ob2 k9 (fun b hb => by have := (World.ownsRow.lt ob2 b hb).1; omega)
              have on9 := own_kept on2 k9 (fun b hb => by have := (World.ownsRow.lt on2 b hb).1; omega)
              have bD9 := k9.heap bD2 (by omega)
              have hK9 : Keep (fun b => b < P) W3 W9 := hK2.trans (k9.mono fun b _ h => by omega)
              have hsrc := own_src on9
              obtain ⟨v', W10, hr10, hkn10, hg10, hk10⟩ := appA (P := Try.prog) el_strs 71 hkn9 anx snw.length cnx (snw.map .string) (by simp) hsrc.1 hsrc.2 (by simp [Value.oneCell']) (by omega) (by omega)
              rw [← List.map_append, ← List.length_append] at hkn10
              obtain ⟨ak2, ck2, rfl⟩ := own_form hkn10
              have hsk10 := hsk9.known hkn9 hg10 hk10
              have hoff : ∀ g, wc.heap.size ≤ g → g < W9.heap.size → Value.ownBlock (.slice ak2 (s.K ++ snw).length ck2) ≠ some g := fun g h1 h2 e => by
                rcases hg10 g e with h | h
                · have := (Xhkbo.out g h).2; omega
                · omega
              have hoff2 : ∀ g, g < P + 1 + 1 → Value.ownBlock (.slice ak2 (s.K ++ snw).length ck2) ≠ some g := fun g h1 e => by
                rcases hg10 g e with h | h
                · have := (Xhkbo.out g h).1; omega
                · omega
              have ob10 := own_kept ob9 hk10 (fun b hb => by have := World.ownsRow.lt ob9 b hb; exact hoff b this.1 this.2)
              have on10 := own_kept on9 hk10 (fun b hb => by have := World.ownsRow.lt on9 b hb; exact hoff b this.1 this.2)
              have hz10 := hk10.size
              have bD10 := hk10.heap bD9 (hoff D (by omega) (by omega))
              have hP10 := hk10.heap hP9 (hoff2 _ (by omega))
              have hT10 := hk10.heap hT9 (hoff2 _ (by omega))
              have hK10 : Keep (fun b => b < P) W3 W10 := hK9.trans (hk10.mono fun b _ h => hoff2 b (by omega))
              have hszx : P + 1 + 1 ≤ wc.heap.size := by omega
              obtain ⟨v'', W11, hr11, hsk11, k11⟩ := hsk10.snoc ⟨(kb : Int), sbd, snw⟩ _ _ (ob10.mono hszx) (on10.mono hszx) (fun b hb => by have := World.ownsRow.lt on9 b hb; exact hoff b this.1 this.2) (by rw [XhStepLen.out]; omega) (by omega)
              obtain ⟨qs10, _, hown10, _⟩ := hsk10
              have hob10 : ∀ b, some b = Value.ownBlock (.slice avs j cvs) → P + 1 + 1 ≤ b := fun b hb => (World.ownsRow.lt hown10 b hb.symm).1
              have hkn11 := own_kept hkn10 k11 (fun b hb e => by
                obtain ⟨c1, t1⟩ := own_typed hkn10 hb
                obtain ⟨c2, t2⟩ := own_typed hown10 e.symm
                rw [t1] at t2
                cases t2)
              have hP11 := k11.heap hP10 (fun e => by have := hob10 _ e; omega)
              have hT11 := k11.heap hT10 (fun e => by have := hob10 _ e; omega)
              have hK11 : Keep (fun b => b < P) W3 W11 := hK10.trans (k11.mono fun b _ h e => by have := hob10 _ e; omega)
              obtain ⟨av11, cv11, rfl⟩ := hsk11.own.form
              have hlen11 : (s.steps ++ [(⟨(kb : Int), sbd, snw⟩ : StepD)]).length = j + 1 := by rw [List.length_append, XhStepLen.out]; rfl
              rw [hlen11] at hr11 hsk11
              have t0 := cells_of_block hP11 3 _ rfl
              have t0f := box_free hP11 3
              have t1 := cells_of_block hP10 3 _ rfl
              have v0 := cells_of_block bD10 0 _ rfl
              have v1 := cells_of_block bD10 1 _ rfl
              have v2 := cells_of_block bD10 2 _ rfl
              have v29 := cells_of_block bD9 2 _ rfl
              simp only [Nat.zero_add] at t0 t1 v0 v1 v2 v29
              have hDl9 := heap_lt bD9
              have hDl10 := heap_lt bD10
              have hPl9 := heap_lt hP9
              have hPl10 := heap_lt hP10
              have hPl11 := heap_lt hP11
              have hz11 := k11.size
              obtain ⟨W12, hW12⟩ : ∃ W12, W11.setCell ⟨P, 3, none⟩ (.slice av11 (j + 1) cv11) = W12 := ⟨_, rfl⟩
              have k12 : Keep (fun b => b ≠ P) W11 W12 := by rw [← hW12]; exact Keep.setCell _ _ _ (by simp)
              have hz12 := k12.size
              have hP12 := set_at 3 (.slice av11 (j + 1) cv11) hP11
              rw [hW12] at hP12
              simp only [List.setIfInBounds_toArray, List.set_cons_succ, List.set_cons_zero] at hP12
              have hT12 := k12.heap hT11 (by omega)
              have hkn12 := own_kept hkn11 k12 (fun b hb => by have := World.ownsRow.lt hkn11 b hb; omega)
              have hsk12 := hsk11.keep k12 (fun b cs t h _ _ => by omega)
              have hK12 : Keep (fun b => b < P) W3 W12 := hK11.trans (k12.mono fun b _ h => by omega)
              have hgo : mkGo ⟨⟨pr, args⟩, body⟩ l first (j + 1) = ⟨s.K ++ snw, s.taken.set kb true, behindD s.rows x sbd l, s.steps ++ [⟨(kb : Int), sbd, snw⟩]⟩ := by
                show stepM ⟨⟨pr, args⟩, body⟩ l (chooseM ⟨⟨pr, args⟩, body⟩ l first j (mkGo ⟨⟨pr, args⟩, body⟩ l first j)) (mkGo ⟨⟨pr, args⟩, body⟩ l first j) = _
                rw [Xhs.out, Xhkb1.out]
                unfold stepM
                simp only [Int.toNat_natCast]
                rw [Xhgd.out, Xhste.out, Xhlrn.out]
              clear hp k72 kx2 hT2 hP2 hkn2 hsk2 ob2 on2 bD2 hK2 p0 p1 p2 p0' p1' p2' n0' n1' n2' n3' n4' n5' n6' e2' k9 hP9 hT9 hkn9 hsk9 ob9 on9 bD9 hK9 hsrc hkn10 hg10 hk10 hoff hoff2 ob10 on10 bD10 hP10 hT10 hK10 hown10 hob10 hkn11 hP11 hT11 hK11 hsk11 k11 k12 hlen11
              have Xhr10 := Lib.hid hr10
              have Xhr11 := Lib.hid hr11
              have XhW9 := Lib.hid hW9
              have XhTmap := Lib.hid hTmap
              have XhW12 := Lib.hid hW12
              have XhP12 := Lib.hid hP12
              have XhT12 := Lib.hid hT12
              have Xhkn12 := Lib.hid hkn12
              have Xhsk12 := Lib.hid hsk12
              have XhK12 := Lib.hid hK12
              have Xhgo := Lib.hid hgo
              clear hr10 hr11 hW9 hTmap hW12 hP12 hT12 hkn12 hsk12 hK12 hgo
              go_upto_region 18 with fail
              rw [XhW9.out]
              go_wp2_with (at_builtin; first | refine go_app (v := .slice ak s.K.length ck) (u := .slice anx snw.length cnx) (v' := .slice ak2 (s.K ++ snw).length ck2) (w' := W10) rfl (.tmp 89) (.tmp 91) 71 rfl rfl rfl Xhr10.out ?_ | refine go_app (v := .slice avs j cvs) (u := .slice (some ⟨W10.heap.size, 0, none⟩) 1 1) (v' := .slice av11 (j + 1) cv11) (w' := W11) rfl (.tmp 94) (.tmp 96) 32 rfl rfl rfl Xhr11.out ?_)
              rw [XhW12.out]
              go_roundw
              case rel => exact ⟨j + 1, _, by omega, by go_num, by rw [Xhgo.out], XhK12.out, XhP12.out, by rw [Xhgo.out]; exact XhT12.out, by rw [Xhgo.out, ← List.length_append]; exact Xhkn12.out, by rw [Xhgo.out, ← List.length_append]; exact Xhsk12.out, by have := XhD.out; omega⟩
              case measure => simp [intOf]; omega
        · obtain rfl : j = body.length := by omega
          have x0 := cells_of_block hP1 0 _ rfl
          have x1 := cells_of_block hP1 1 _ rfl
          have x2 := cells_of_block hP1 2 _ rfl
          have x3 := cells_of_block hP1 3 _ rfl
          have ra := hK.heap Xa4.out (show N + 1 < P by omega)
          have r0 := cells_of_block ra 0 _ rfl
          have r1 := cells_of_block ra 1 _ rfl
          have r2 := cells_of_block ra 2 _ rfl
          have r3 := cells_of_block ra 3 _ rfl
          have f0 := box_free ra 0
          have f1 := box_free ra 1
          have f2 := box_free ra 2
          have f3 := box_free ra 3
          simp only [Nat.zero_add] at x0 x1 x2 x3 r0 r1 r2 r3
          have hNw1 : N + 1 < wr.heap.size := heap_lt ra
          clear a5
          have XhK := Lib.hid hK
          have XhP1 := Lib.hid hP1
          have XhT := Lib.hid hT
          have Xhkn := Lib.hid hkn
          have Xhsk := Lib.hid hsk
          have Xhok := Lib.hid hok
          have Xkw := Lib.hid kw
          have Xhs := Lib.hid hs
          have XhStepLen := Lib.hid hStepLen
          have Xra := Lib.hid ra
          clear hK hP1 hT hkn hsk hok kw hs hStepLen ra
          go_wp2_with fail
          refine bodyPost_ret (v := .tuple #[.agg #[.string pr, .slice aa args.length ca, .slice ab body.length cb, .slice avs body.length cvs], .int .i64 0]) (by simp [results, Try.results13, go_sem, r0, r1, r2, r3, hNw1]) rfl ?_
          have kS : Keep (fun b => b ≠ N + 1) wr ((((wr.setCell ⟨N + 1, 0, none⟩ (.string pr)).setCell ⟨N + 1, 1, none⟩ (.slice aa args.length ca)).setCell ⟨N + 1, 2, none⟩ (.slice ab body.length cb)).setCell ⟨N + 1, 3, none⟩ (.slice avs body.length cvs)) :=
            (((Keep.setCell _ _ _ (by simp)).trans (Keep.setCell _ _ _ (by simp))).trans (Keep.setCell _ _ _ (by simp))).trans (Keep.setCell _ _ _ (by simp))
          have hNe := XhN.out
          have kwS : Keep (fun b => b < w.heap.size) w _ := (Xkw.out.trans (kS.mono fun b _ h => by omega)).mono fun b _ h => by omega
          rw [XhM2.out, Xhs.out]
          exact ⟨_, _, _, rfl, Xhr.out.keep (kwS.mono fun b _ h => by omega), ((Xhsk.out.own).keep kS (fun b cs t h _ _ => by omega)).mono (by omega), kwS⟩
    · have hM2 : makeD ⟨⟨pr, args⟩, body⟩ l first = (noPlan, ea) := by
        rw [XhM.out, Xhbad.out, hea, if_pos he0]
      have hne : (ea != 0) = true := bne_iff_ne.2 he0
      clear hea he0
      have XhM2 := Lib.hid hM2
      have Xhk1 := Lib.hid hk1
      clear hM2 hk1
      go_wp2_with fail
      refine Xhk1.out.mono ?_
      rintro e W1 ⟨rfl, k1⟩
      have hz1 := k1.size
      have a2' := k1.heap Xa2.out hNl1
      have r0 := cells_of_block a2' 0 _ rfl
      have r1 := cells_of_block a2' 1 _ rfl
      have r2 := cells_of_block a2' 2 _ rfl
      have r3 := cells_of_block a2' 3 _ rfl
      have f0 := box_free a2' 0
      have f1 := box_free a2' 1
      have f2 := box_free a2' 2
      have f3 := box_free a2' 3
      simp only [Nat.zero_add] at r0 r1 r2 r3
      have hNl2 : N + 1 < W1.heap.size := by omega
      clear a2'
      have Xk1 := Lib.hid k1
      clear k1
      go_wp2_with fail
      refine bodyPost_ret (v := .tuple #[.agg #[.string ⟨#[]⟩, .slice none 0 0, .slice none 0 0, .slice none 0 0], .int .i64 ea]) (by simp [results, Try.results13, go_sem, r0, r1, r2, r3, hNl2]) rfl ?_
      rw [XhM2.out]
      have kS : Keep (fun b => b ≠ N + 1) W1 ((((W1.setCell ⟨N + 1, 0, none⟩ (.string ⟨#[]⟩)).setCell ⟨N + 1, 1, none⟩ (.slice none 0 0)).setCell ⟨N + 1, 2, none⟩ (.slice none 0 0)).setCell ⟨N + 1, 3, none⟩ (.slice none 0 0)) :=
        (((Keep.setCell _ _ _ (by simp)).trans (Keep.setCell _ _ _ (by simp))).trans (Keep.setCell _ _ _ (by simp))).trans (Keep.setCell _ _ _ (by simp))
      exact ⟨_, _, _, rfl, ruleIn_no _ _, StepsOwn.nil _ _, ((Xk0.out.trans (Xk1.out.mono fun b _ h => by omega)).trans (kS.mono fun b _ h => by omega)).mono fun b _ h => by have := XhN.out; omega⟩
end Go.Proofs
