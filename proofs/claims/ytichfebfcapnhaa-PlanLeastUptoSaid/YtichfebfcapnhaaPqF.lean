/- Layer 16 (plan): Least, the document's. -/
import Derived.Test.YtichfebfcapnhaaProg
import Derived.Test.YtichfebfcapnhaaPqE
import Derived.Test.YtichfebfcapnhaaPpI
import Derived.Test.YtichfebfcapnhaaPnX
namespace Go.Proofs
open Go.RowKit Go.Ink Go.Flt
set_option linter.unusedVariables false
set_option linter.unusedSimpArgs false
attribute [local go_sem] Oper.semAt_some

theorem noRule_in (n : Nat) (w : World) : RuleIn n w (.slice none 0 0) (.slice none 0 0) noPlan.rule :=
  ⟨⟨none, 0, rfl, by decide, ⟨by decide, by decide⟩, fun k x h => by simp [noPlan] at h⟩, ⟨none, 0, rfl, by decide, ⟨by decide, by decide⟩, fun k x h => by simp [noPlan] at h⟩⟩

set_option maxRecDepth 100000 in
set_option maxHeartbeats 4000000 in
theorem refLeast_any (n : Nat) (r : RuleD) (hsm : smallR r) (sh sb : Value) (l : List SizeD) (sv : Value) (w : World) (hr : RuleIn n w sh sb r) (hl : SizesIn n w sv l) (hn : n ≤ w.heap.size) :
    Calls Try.prog 30 #[ruleV r sh sb, sv] w fun e w' => ∃ vh vb vs, e = .returned (.tuple #[planV (refLeastD r l).1 vh vb vs, .float .f64 (refLeastD r l).2.1, .int .i64 (refLeastD r l).2.2]) ∧ RuleIn n w' vh vb (refLeastD r l).1.rule ∧ StepsOwn w.heap.size w' vs (refLeastD r l).1.steps ∧ Keep (fun b => b < w.heap.size) w w' := by
  have hM : refLeastD r l = if askedD r l (decide (6 < r.body.length)) ≠ 0 then (noPlan, 0, askedD r l (decide (6 < r.body.length))) else (planB r (refB r l), lst0 (refB r l), 0) := rfl
  have hB : refB r l = refTo r.body l (lvlO r.body.length r.body.length) := rfl
  have hasked := fun arg W (hK : Keep (fun b => b < w.heap.size) w W) => refAsked_any n r hsm sh sb l sv arg W (hr.keep (hK.mono fun b _ h => by omega)) (hl.keep (hK.mono fun b _ h => by omega)) (by have := hK.size; omega)
  have hplan := fun hF o vo W (hK : Keep (fun b => b < w.heap.size) w W) (ho : IntsIn W.heap.size W vo o) => planned_any W.heap.size r hF sh sb o vo W ((hr.keep (hK.mono fun b _ h => by omega)).wider (by have := hK.size; omega)) ho (Nat.le_refl _)
  have hrows := fun ss vs hR hU W (hK : Keep (fun b => b < w.heap.size) w W) (hs : StepsIn W.heap.size W vs ss) => refrows_any W.heap.size ⟨r, ss⟩ sh sb vs l sv hR hU W ⟨(hr.keep (hK.mono fun b _ h => by omega)).wider (by have := hK.size; omega), hs⟩ (SizesIn.wider (hl.keep (hK.mono fun b _ h => by omega)) (by have := hK.size; omega)) (Nat.le_refl _)
  have hpsz := fun o ss hF (h : plannedP r.body o = some ss) => planned_sized (sized_of hr) h hF
  have hprt := fun o ss hF (h : plannedP r.body o = some ss) => planned_right (r := r) hF h
  obtain ⟨hh, hb⟩ := id hr
  obtain ⟨⟨pr, args⟩, body⟩ := r
  unfold ruleV at hasked hplan ⊢
  unfold planV at hrows
  simp only at hh hb hasked hplan hrows hpsz hprt hM ⊢
  obtain ⟨aa, ca, rfl, hla, -, -⟩ := id hh
  obtain ⟨ab, cb, rfl, hlb, hcb, heb⟩ := id hb
  obtain ⟨asl, csl, rfl, hls, -, -⟩ := id hl
  obtain ⟨N, hN⟩ : ∃ N, w.heap.size = N := ⟨_, rfl⟩
  have hnN : n ≤ N := by omega
  obtain ⟨bad, hbad⟩ : ∃ b, decide (6 < body.length) = b := ⟨_, rfl⟩
  have hbadI : decide ((6 : Int) < body.length) = bad := by rw [← hbad]; congr 1; exact propext ⟨fun h => by omega, fun h => by omega⟩
  rw [hbad] at hM
  clear hh hb heb
  have XhM := Lib.hid hM
  have XhB := Lib.hid hB
  have Xhasked := Lib.hid hasked
  have Xhplan := Lib.hid hplan
  have Xhrows := Lib.hid hrows
  have Xhpsz := Lib.hid hpsz
  have Xhprt := Lib.hid hprt
  have Xhl := Lib.hid hl
  have XhN := Lib.hid hN
  have Xhr := Lib.hid hr
  have Xhbad := Lib.hid hbad
  clear hM hB hasked hplan hrows hpsz hprt hl hN hr hbad
  go_enter Try.func30, Try.ntmps30
  go_upto_region 1 with fail
  refine wp_abs (fun W => Keep (fun b => b < w.heap.size) w W ∧ W.heap.size = w.heap.size + 1 + 1 ∧ W.heap[w.heap.size]? = some (.cells #[.string pr, .slice aa args.length ca, .slice ab body.length cb] 28 (0, 0)) ∧
    W.heap[w.heap.size + 1]? = some (.cells #[.string ⟨#[]⟩, .slice none 0 0, .slice none 0 0, .slice none 0 0] 34 (0, 0))) ⟨(Keep.alloc _ _ _).trans (Keep.alloc _ _ _), by simp, by simp only [alloc_get, World.size_alloc]; simp, by simp only [alloc_get, World.size_alloc]; simp⟩ ?_
  rintro W0 ⟨k0, z0, a1, a2⟩
  rw [XhN.out] at k0 z0 a1 a2 ⊢
  have c0 := cells_of_block a1 0 _ rfl
  have c1 := cells_of_block a1 1 _ rfl
  have c2 := cells_of_block a1 2 _ rfl
  simp only [Nat.zero_add] at c0 c1 c2
  have hNl : N < W0.heap.size := by omega
  have hNl1 : N + 1 < W0.heap.size := by omega
  have hk1 := Xhasked.out bad W0 (k0.mono fun b _ h => by have := XhN.out; omega)
  obtain ⟨ea, hea⟩ : ∃ e, askedD ⟨⟨pr, args⟩, body⟩ l bad = e := ⟨_, rfl⟩
  rw [hea] at hk1
  have Xk0 := Lib.hid k0
  have Xa1 := Lib.hid a1
  have Xa2 := Lib.hid a2
  clear k0 a1 a2
  by_cases he0 : ea = 0
  · subst he0
    have hbf : bad = false := by
      cases bad with
      | false => rfl
      | true => unfold askedD at hea; rw [Bool.or_true, if_pos rfl] at hea; exact absurd hea (by decide)
    subst hbf
    have h6 : body.length ≤ 6 := by have := of_decide_eq_false Xhbad.out; omega
    have hM2 : refLeastD ⟨⟨pr, args⟩, body⟩ l = (planB ⟨⟨pr, args⟩, body⟩ (refB ⟨⟨pr, args⟩, body⟩ l), lst0 (refB ⟨⟨pr, args⟩, body⟩ l), 0) := by
      rw [XhM.out, hea]; rfl
    have hgood : formedB ⟨⟨pr, args⟩, body⟩ = true ∧ usableB l = true ∧ safeP ⟨⟨pr, args⟩, body⟩ = true := by
      unfold askedD at hea
      cases h1 : formedB ⟨⟨pr, args⟩, body⟩ <;> cases h2 : usableB l <;> cases h3 : safeP ⟨⟨pr, args⟩, body⟩ <;> rw [h1, h2, h3] at hea <;> first | exact ⟨rfl, rfl, rfl⟩ | (exfalso; revert hea; decide)
    have h61 : ¬ (6 : Int) < body.length := by omega
    have hord := fun W => orders_any body.length h6 W
    clear hea hbadI
    have XhM2 := Lib.hid hM2
    have Xhk1 := Lib.hid hk1
    have Xhgood := Lib.hid hgood
    clear hM2 hk1 hgood
    go_wp2_with fail
    refine Xhk1.out.mono ?_
    rintro e W1 ⟨rfl, k1⟩
    have hz1 := k1.size
    have e0 := k1.cell c0 hNl
    have e1 := k1.cell c1 hNl
    have e2 := k1.cell c2 hNl
    have hl1 : N < W1.heap.size := by omega
    clear c0 c1 c2
    have Xk1 := Lib.hid k1
    have Xhord := Lib.hid hord
    clear k1 hord
    go_wp2_with fail
    refine (Xhord.out W1).mono ?_
    rintro e W2 ⟨vo, rfl, hO, k2⟩
    have hz2 := k2.size
    obtain ⟨Ls, hLs⟩ : ∃ Ls, lvlO body.length body.length = Ls := ⟨_, rfl⟩
    have hLl : Ls.length ≤ 46656 := by
      rw [← hLs]
      exact Nat.le_trans (lvlO_len _ h6 _ h6) (Nat.pow_le_pow_right (by omega) h6)
    rw [hLs] at hO
    obtain ⟨ao, co, rfl⟩ := hO.form
    clear e0 e1 e2
    have Xk2 := Lib.hid k2
    have XhO := Lib.hid hO
    have XhLs := Lib.hid hLs
    clear k2 hO hLs
    go_upto_region 6 with fail
    obtain ⟨P, hP⟩ : ∃ P, W2.heap.size = P := ⟨_, rfl⟩
    obtain ⟨W3, hW3⟩ : ∃ W3, W2.alloc (.cells #[.string ⟨#[]⟩, .slice none 0 0, .slice none 0 0, .slice none 0 0] 34) = W3 := ⟨_, rfl⟩
    have k3 : Keep (fun _ => True) W2 W3 := by rw [← hW3]; exact Keep.alloc _ _ _
    have z3 : W3.heap.size = P + 1 := by rw [← hW3, ← hP]; simp
    have p3 := new_block W2 (.cells #[.string ⟨#[]⟩, .slice none 0 0, .slice none 0 0, .slice none 0 0] 34)
    rw [hW3, hP] at p3
    rw [hW3, hP]
    have hNP : N + 1 + 1 ≤ P := by omega
    have k03 : Keep (fun b => b < N + 1 + 1) W0 W3 := ((Xk1.out.mono fun b _ h => by omega).trans (Xk2.out.mono fun b _ h => by omega)).trans (k3.mono fun _ _ _ => trivial)
    have b1 := k03.heap Xa1.out (show N < N + 1 + 1 by omega)
    have b2 := k03.heap Xa2.out (show N + 1 < N + 1 + 1 by omega)
    have kw3 : Keep (fun b => b < w.heap.size) w W3 := Xk0.out.trans (k03.mono fun b _ h => by have := XhN.out; omega) |>.mono fun b _ h => by have := XhN.out; omega
    clear hW3
    have Xk3 := Lib.hid k3
    have Xp3 := Lib.hid p3
    have Xk03 := Lib.hid k03
    have Xb1 := Lib.hid b1
    have Xb2 := Lib.hid b2
    have Xkw3 := Lib.hid kw3
    have XhP := Lib.hid hP
    clear k3 p3 k03 b1 b2 kw3 hP
    go_wp2_with fail
    go_loopw [10, 11, 12] (fun x10 x11 i' wr => ∃ (k : Nat) (best : BestD) (vs : Value) (pp : ByteArray) (ph pb : Value), k ≤ Ls.length ∧ i' = .int .i64 (k : Int) ∧ x10 = .float .f64 (lst0 best) ∧ x11 = .bool best.isSome ∧ refTo body l (Ls.take k) = best ∧ Keep (fun b => b < P) W3 wr ∧
      wr.heap[P]? = some (.cells #[.string pp, ph, pb, vs] 34 (0, 0)) ∧ StepsOwn (P + 1) wr vs (stpB best) ∧ ((best = none ∧ pp = ⟨#[]⟩ ∧ ph = .slice none 0 0 ∧ pb = .slice none 0 0) ∨ (best ≠ none ∧ pp = pr ∧ ph = .slice aa args.length ca ∧ pb = .slice ab body.length cb)) ∧ P + 1 ≤ wr.heap.size) (fun _ _ i _ => Ls.length - (intOf i).toNat)
    case atStart => exact ⟨0, none, _, _, _, _, by omega, rfl, rfl, rfl, rfl, Keep.refl _ _, Xp3.out, StepsOwn.nil _ _, .inl ⟨rfl, rfl, rfl, rfl⟩, by omega⟩
    case round =>
      obtain ⟨k, best, vs, pp, ph, pb, hk, rfl, rfl, rfl, hbest, hK, hP9, hso, hPB, hPr⟩ := hrel
      obtain ⟨asv, csv, rfl⟩ := hso.form
      have hfine : FineB best := by rw [← hbest]; exact refTo_fine Xhgood.out.2.1 h6 _ none (fun _ _ h => by cases h)
      obtain ⟨lb, hlb0⟩ : ∃ x, lst0 best = x := ⟨_, rfl⟩
      obtain ⟨fb, hfb⟩ : ∃ x, best.isSome = x := ⟨_, rfl⟩
      rw [hlb0, hfb]
      have kwr : Keep (fun b => b < w.heap.size) w wr := Xkw3.out.trans (hK.mono fun b _ h => by have := XhN.out; omega)
      have d1 := hK.heap Xb1.out (show N < P by omega)
      have n0 := cells_of_block d1 0 _ rfl
      have n1 := cells_of_block d1 1 _ rfl
      have n2 := cells_of_block d1 2 _ rfl
      simp only [Nat.zero_add] at n0 n1 n2
      have hNw : N < wr.heap.size := by omega
      by_cases hlt : k < Ls.length
      · have hlt1 : (k : Int) < Ls.length := by omega
        have hk0 : (0 : Int) ≤ k := by omega
        obtain ⟨o, ho⟩ : ∃ o, Ls[k]? = some o := ⟨_, List.getElem?_eq_getElem hlt⟩
        have hnx := refTo_snoc body l Ls ho
        rw [hbest] at hnx
        have hO4 := XhO.out.keep ((Xk3.out.mono fun _ _ _ => trivial).trans hK) fun b _ h => by rw [← XhP.out]; exact h
        have hol : o.length ≤ 6 := by
          have := lvlO_each body.length body.length o (by rw [XhLs.out]; exact List.mem_of_getElem? ho)
          omega
        obtain ⟨b, vo, rfl, hcb, hbl, -, hvo⟩ := hO4.at rfl ho
        obtain ⟨av, cv, rfl⟩ := own_form hvo
        have hpl := fun W (hW : Keep (fun b => b < wr.heap.size) wr W) => Xhplan.out Xhgood.out.1 o _ W (kwr.trans (hW.mono fun b _ h => by have := XhN.out; omega)) (own_ints (own_kept hvo hW fun b hb => (World.ownsRow.lt hvo b hb).2) (by omega))
        clear hO4 hvo d1
        have XhK := Lib.hid hK
        have XhP9 := Lib.hid hP9
        have Xhso := Lib.hid hso
        have XhPB := Lib.hid hPB
        have Xhpl := Lib.hid hpl
        have Xhbest := Lib.hid hbest
        have Xhfine := Lib.hid hfine
        have Xkwr := Lib.hid kwr
        have Xhnx := Lib.hid hnx
        have Xho := Lib.hid ho
        have Xhlb0 := Lib.hid hlb0
        have Xhfb := Lib.hid hfb
        clear hK hP9 hso hPB hpl hbest hfine kwr hnx ho hlb0 hfb
        go_wp2_with fail
        go_cut [13, 14] from 37 to 45 (fun x13 x14 W6 => ∃ (ss : List StepD) (as5 : Option Addr) (cs5 P5 : Nat), x13 = .pointer (some ⟨P5, 0, none⟩) ∧ x14 = .bool (plannedP body o).isSome ∧ W6.heap[P5]? = some (.cells #[.string pr, .slice aa args.length ca, .slice ab body.length cb, .slice as5 ss.length cs5] 34 (0, 0)) ∧
          Keep (fun b => b < wr.heap.size) wr W6 ∧ StepsOwn wr.heap.size W6 (.slice as5 ss.length cs5) ss ∧ (∀ s, plannedP body o = some s → s = ss) ∧ wr.heap.size ≤ P5)
        case first =>
          go_region_with (
            refine (Xhpl.out _ (by first | exact Keep.refl _ _ | exact Keep.alloc _ _ _ | exact Keep.drew _ _ | exact (Keep.drew _ _).trans (Keep.alloc _ _ _) | exact (Keep.alloc _ _ _).trans (Keep.drew _ _))).mono ?_
            rintro e W5 ⟨ss, vs5, rfl, hso5, hsome, k5⟩
            obtain ⟨as5, cs5, rfl⟩ := hso5.form
            have z5 := k5.size
            simp only [World.size_drew, World.size_alloc] at z5
            try (
              have q5 : W5.heap[wr.heap.size]? = some (.cells #[.string ⟨#[]⟩, .slice none 0 0, .slice none 0 0, .slice none 0 0] 34 (0, 0)) := k5.heap (by first | exact new_block wr _ | exact new_block wr.drew _) (by simp)
              have f0 := box_free q5 0
              have f1 := box_free q5 1
              have f2 := box_free q5 2
              have f3 := box_free q5 3
              have s0 := cells_of_block q5 0 _ rfl
              have s1 := cells_of_block q5 1 _ rfl
              have s2 := cells_of_block q5 2 _ rfl
              have s3 := cells_of_block q5 3 _ rfl
              simp only [Nat.zero_add] at s0 s1 s2 s3
              have hl5 : wr.heap.size < W5.heap.size := heap_lt q5
              have Xq5 := Lib.hid q5
              clear q5)
            have Xhso5 := Lib.hid hso5
            have Xhsome := Lib.hid hsome
            have Xk5 := Lib.hid k5
            clear hso5 hsome k5)
          all_goals (
            first
              | (have hq5 := Xq5.out
                 go_wp2_with fail
                 go_meet
                 have kf : ∀ u0 u1 u2 u3, Keep (fun b => b ≠ wr.heap.size) W5 ((((W5.setCell ⟨wr.heap.size, 0, none⟩ u0).setCell ⟨wr.heap.size, 1, none⟩ u1).setCell ⟨wr.heap.size, 2, none⟩ u2).setCell ⟨wr.heap.size, 3, none⟩ u3) := fun _ _ _ _ => (((Keep.setCell _ _ _ (by simp)).trans (Keep.setCell _ _ _ (by simp))).trans (Keep.setCell _ _ _ (by simp))).trans (Keep.setCell _ _ _ (by simp))
                 have kk := Xk5.out
                 have hh := Xhso5.out
                 simp only [World.size_drew, World.size_alloc] at kk hh
                 refine ⟨ss, as5, cs5, wr.heap.size, rfl, rfl, set_at 3 _ (set_at 2 _ (set_at 1 _ (set_at 0 _ hq5))), ?_, ?_, Xhsome.out, Nat.le_refl _⟩
                 · refine Keep.trans ?_ ((kf _ _ _ _).mono fun b _ h => by omega)
                   exact Keep.trans ((Keep.alloc (fun _ => True) _ _).mono fun _ _ _ => trivial) ((Keep.trans (Keep.drew _ _) kk).mono fun b _ h => by omega)
                 · exact (hh.keep (kf _ _ _ _) fun b cs t h _ _ => by omega).mono (by omega))
              | (go_wp2_with fail
                 go_meet
                 have kk := Xk5.out
                 have hh := Xhso5.out
                 simp only [World.size_drew] at kk hh
                 exact ⟨ss, as5, cs5, W5.heap.size, rfl, rfl, new_block _ _, (((Keep.drew _ _).trans kk).trans (Keep.alloc _ _ _)), hh.keep (Keep.alloc (fun _ => True) _ _) (fun _ _ _ _ _ _ => trivial), Xhsome.out, z5⟩))
        case rest =>
          obtain ⟨ss, as5, cs5, P5, rfl, rfl, q6, k6, hso6, hsome, hP5⟩ := hcut
          have hz6 := k6.size
          have p0 := cells_of_block q6 0 _ rfl
          have p1 := cells_of_block q6 1 _ rfl
          have p2 := cells_of_block q6 2 _ rfl
          have p3 := cells_of_block q6 3 _ rfl
          simp only [Nat.zero_add] at p0 p1 p2 p3
          have hl5 := heap_lt q6
          have kw6 : Keep (fun b => b < w.heap.size) w wc := Xkwr.out.trans (k6.mono fun b _ h => by have := XhN.out; omega)
          have hP96 := k6.heap XhP9.out (show P < wr.heap.size by omega)
          have hso9 := Xhso.out.keep k6 (fun b cs t _ h _ => heap_lt h)
          have hK6 : Keep (fun b => b < P) W3 wc := XhK.out.trans (k6.mono fun b _ h => by omega)
          clear n0 n1 n2 Xhpl
          cases hpo : plannedP body o with
          | none =>
            have hnx2 : refTo body l (Ls.take (k + 1)) = best := by rw [Xhnx.out]; unfold tryO; rw [hpo]
            clear hsome hso6 k6
            have Xhnx2 := Lib.hid hnx2
            have Xkw6 := Lib.hid kw6
            have XhP96 := Lib.hid hP96
            have Xhso9 := Lib.hid hso9
            have XhK6 := Lib.hid hK6
            have Xq6 := Lib.hid q6
            clear hnx2 kw6 hP96 hso9 hK6 q6
            go_wp2_with fail
            go_roundw
            case rel => exact ⟨k + 1, best, _, _, _, _, by omega, by go_num, by rw [Xhlb0.out], by rw [Xhfb.out], Xhnx2.out, XhK6.out, XhP96.out, Xhso9.out, XhPB.out, by omega⟩
            case measure => simp [intOf]; omega
          | some s0 =>
            obtain rfl := hsome s0 hpo
            have hnx2 : refTo body l (Ls.take (k + 1)) = updB best (costS body l s0) s0 := by rw [Xhnx.out]; unfold tryO; rw [hpo]
            have hR := Xhprt.out o s0 Xhgood.out.1 hpo
            have hszd := Xhpsz.out o s0 Xhgood.out.1 hpo
            have g1 := Xhrows.out s0 _ hR Xhgood.out.2.1 wc kw6 (hso6.steps hszd)
            have hs6 : s0.length ≤ 6 := by have := planned_len hpo; omega
            have hcs : costS body l s0 < 9218868437227405312 := costS_fin Xhgood.out.2.1 (by omega)
            have hrl : (rowsL body l s0 s0.length).length = s0.length := by unfold rowsL; rw [List.length_map, List.length_range]
            have hrc : ∀ x, x ∈ rowsL body l s0 s0.length → x ≤ 9094988921128908188 := fun x hx => by
              unfold rowsL at hx
              obtain ⟨i, -, rfl⟩ := List.mem_map.1 hx
              exact rowAt_le Xhgood.out.2.1 (i + 1)
            have hcd : costS body l s0 = sumD (rowsL body l s0 s0.length) := rfl
            obtain ⟨rl, hrlE⟩ : ∃ rl, rowsL body l s0 s0.length = rl := ⟨_, rfl⟩
            rw [hrlE] at hrl hrc hcd
            simp only [hrlE] at g1
            obtain ⟨c, hc⟩ : ∃ c, costS body l s0 = c := ⟨_, rfl⟩
            rw [hc] at hnx2 hcs hcd
            clear hsome hR hszd
            have Xhnx2 := Lib.hid hnx2
            have Xkw6 := Lib.hid kw6
            have XhP96 := Lib.hid hP96
            have Xhso9 := Lib.hid hso9
            have XhK6 := Lib.hid hK6
            have Xq6 := Lib.hid q6
            have Xg1 := Lib.hid g1
            have Xhso6 := Lib.hid hso6
            have Xk6 := Lib.hid k6
            have Xhcs := Lib.hid hcs
            have Xhrl := Lib.hid hrl
            have Xhrc := Lib.hid hrc
            have Xhcd := Lib.hid hcd
            have XhrlE := Lib.hid hrlE
            have Xhc := Lib.hid hc
            have Xhpo := Lib.hid hpo
            clear hnx2 kw6 hP96 hso9 hK6 q6 g1 hso6 k6 hcs hrl hrc hcd hrlE hc hpo
            go_wp2_with fail
            refine Xg1.out.mono ?_
            rintro e W7 ⟨vr, rfl, orr, k7⟩
            have hz7 := k7.size
            obtain ⟨ar, cr, rfl⟩ := own_form orr
            have g2 := refSum_any W7.heap.size _ rl Xhrc.out W7 (own_floats orr (by rw [Xhrl.out]; omega)) (Nat.le_refl _)
            have q7 := k7.heap Xq6.out hl5
            have hP97 := k7.heap XhP96.out (show P < wc.heap.size by omega)
            clear p0 p1 p2 p3 orr
            have p0 := cells_of_block q7 0 _ rfl
            have p1 := cells_of_block q7 1 _ rfl
            have p2 := cells_of_block q7 2 _ rfl
            have p3 := cells_of_block q7 3 _ rfl
            have r0 := cells_of_block hP97 0 _ rfl
            have r1 := cells_of_block hP97 1 _ rfl
            have r2 := cells_of_block hP97 2 _ rfl
            have r3 := cells_of_block hP97 3 _ rfl
            have f0 := box_free hP97 0
            have f1 := box_free hP97 1
            have f2 := box_free hP97 2
            have f3 := box_free hP97 3
            simp only [Nat.zero_add] at p0 p1 p2 p3 r0 r1 r2 r3
            have hl57 := heap_lt q7
            have hlP7 := heap_lt hP97
            have kS : ∀ u0 u1 u2 u3, Keep (fun b => b ≠ P) W7 ((((W7.setCell ⟨P, 0, none⟩ u0).setCell ⟨P, 1, none⟩ u1).setCell ⟨P, 2, none⟩ u2).setCell ⟨P, 3, none⟩ u3) := fun _ _ _ _ => (((Keep.setCell _ _ _ (by simp)).trans (Keep.setCell _ _ _ (by simp))).trans (Keep.setCell _ _ _ (by simp))).trans (Keep.setCell _ _ _ (by simp))
            have hso7 : StepsOwn (P + 1) W7 (.slice as5 s0.length cs5) s0 := (Xhso6.out.keep k7 (fun b cs t _ h _ => heap_lt h)).mono (by omega)
            have hso97 := Xhso9.out.keep k7 (fun b cs t _ h _ => heap_lt h)
            have hK7 : Keep (fun b => b < P) W3 W7 := XhK6.out.trans (k7.mono fun b _ h => by omega)
            clear k7 q7
            have Xg2 := Lib.hid g2
            have XhP97 := Lib.hid hP97
            have Xhso7 := Lib.hid hso7
            have Xhso97 := Lib.hid hso97
            have XhK7 := Lib.hid hK7
            have XkS := Lib.hid kS
            clear g2 hP97 hso7 hso97 hK7 kS
            go_wp2_with fail
            refine Xg2.out.mono ?_
            rintro e w9 ⟨rfl, hw9⟩
            have hw9 := hw9.symm
            subst hw9
            rw [← Xhcd.out]
            have hcase : (fb = false ∧ updB best c s0 = some (c, s0)) ∨ (fb = true ∧ (FloatKind.f64.format.order c lb == some .lt) = true ∧ updB best c s0 = some (c, s0)) ∨ (fb = true ∧ (FloatKind.f64.format.order c lb == some .lt) = false ∧ updB best c s0 = best) := by
              have hfbx := Xhfb.out
              have hlbx := Xhlb0.out
              have hfi := Xhfine.out
              cases hbb : best with
              | none => rw [hbb] at hfbx; exact .inl ⟨hfbx.symm, rfl⟩
              | some p =>
                obtain ⟨b0, t0⟩ := p
                rw [hbb] at hfbx hlbx
                have hbf := hfi b0 t0 hbb
                have e : lb = b0 := hlbx.symm
                rw [e, lss_fin Xhcs.out hbf]
                by_cases hlt : c < b0
                · exact .inr (.inl ⟨hfbx.symm, decide_eq_true hlt, by unfold updB; simp only; rw [if_pos hlt]⟩)
                · exact .inr (.inr ⟨hfbx.symm, decide_eq_false hlt, by unfold updB; simp only; rw [if_neg hlt]⟩)
            rcases hcase with ⟨rfl, hup⟩ | ⟨rfl, hlt, hup⟩ | ⟨rfl, hlt, hup⟩
            · have Xhup := Lib.hid hup
              clear hup
              go_wp2_with fail
              go_roundw
              case rel => exact ⟨k + 1, some (c, s0), _, _, _, _, by omega, by go_num, rfl, rfl, by rw [Xhnx2.out, Xhup.out], XhK7.out.trans ((XkS.out _ _ _ _).mono fun b _ h => by omega), set_at 3 _ (set_at 2 _ (set_at 1 _ (set_at 0 _ XhP97.out))), Xhso7.out.keep (XkS.out _ _ _ _) (fun b cs t h _ _ => by omega), .inr ⟨by simp, rfl, rfl, rfl⟩, by have := (XkS.out (.string pr) (.slice aa args.length ca) (.slice ab body.length cb) (.slice as5 s0.length cs5)).size; omega⟩
              case measure => simp [intOf]; omega
            · have Xhup := Lib.hid hup
              clear hup
              go_wp2_with fail
              go_roundw
              case rel => exact ⟨k + 1, some (c, s0), _, _, _, _, by omega, by go_num, rfl, rfl, by rw [Xhnx2.out, Xhup.out], XhK7.out.trans ((XkS.out _ _ _ _).mono fun b _ h => by omega), set_at 3 _ (set_at 2 _ (set_at 1 _ (set_at 0 _ XhP97.out))), Xhso7.out.keep (XkS.out _ _ _ _) (fun b cs t h _ _ => by omega), .inr ⟨by simp, rfl, rfl, rfl⟩, by have := (XkS.out (.string pr) (.slice aa args.length ca) (.slice ab body.length cb) (.slice as5 s0.length cs5)).size; omega⟩
              case measure => simp [intOf]; omega
            · have Xhup := Lib.hid hup
              clear hup
              go_wp2_with fail
              go_roundw
              case rel => exact ⟨k + 1, best, _, _, _, _, by omega, by go_num, by rw [Xhlb0.out], by rw [Xhfb.out], by rw [Xhnx2.out, Xhup.out], XhK7.out, XhP97.out, Xhso97.out, XhPB.out, by omega⟩
              case measure => simp [intOf]; omega
      · obtain rfl : k = Ls.length := by omega
        rw [List.take_length] at hbest
        have hbB : refB ⟨⟨pr, args⟩, body⟩ l = best := by rw [XhB.out, ← hbest, ← XhLs.out]
        have d2 := hK.heap Xb2.out (show N + 1 < P by omega)
        have s0 := cells_of_block d2 0 _ rfl
        have s1 := cells_of_block d2 1 _ rfl
        have s2 := cells_of_block d2 2 _ rfl
        have s3 := cells_of_block d2 3 _ rfl
        have f0 := box_free d2 0
        have f1 := box_free d2 1
        have f2 := box_free d2 2
        have f3 := box_free d2 3
        have p0 := cells_of_block hP9 0 _ rfl
        have p1 := cells_of_block hP9 1 _ rfl
        have p2 := cells_of_block hP9 2 _ rfl
        have p3 := cells_of_block hP9 3 _ rfl
        simp only [Nat.zero_add] at s0 s1 s2 s3 p0 p1 p2 p3
        have hlP := heap_lt hP9
        have hlN1 := heap_lt d2
        clear d1 n0 n1 n2 hbest
        have XhK := Lib.hid hK
        have XhP9 := Lib.hid hP9
        have Xhso := Lib.hid hso
        have Xhfine := Lib.hid hfine
        have Xkwr := Lib.hid kwr
        have Xhlb0 := Lib.hid hlb0
        have Xhfb := Lib.hid hfb
        have XhbB := Lib.hid hbB
        have Xd2 := Lib.hid d2
        clear hK hP9 hso hfine kwr hlb0 hfb hbB d2
        have kS : ∀ u0 u1 u2 u3, Keep (fun b => b ≠ N + 1) wr ((((wr.setCell ⟨N + 1, 0, none⟩ u0).setCell ⟨N + 1, 1, none⟩ u1).setCell ⟨N + 1, 2, none⟩ u2).setCell ⟨N + 1, 3, none⟩ u3) := fun _ _ _ _ => (((Keep.setCell _ _ _ (by simp)).trans (Keep.setCell _ _ _ (by simp))).trans (Keep.setCell _ _ _ (by simp))).trans (Keep.setCell _ _ _ (by simp))
        have XkS := Lib.hid kS
        clear kS
        rcases hPB with ⟨hb0, rfl, rfl, rfl⟩ | ⟨hb0, rfl, rfl, rfl⟩
        · subst hb0
          go_wp2_with fail
          refine bodyPost_ret (v := .tuple #[.agg #[.string ⟨#[]⟩, .slice none 0 0, .slice none 0 0, .slice asv (stpB none).length csv], .float .f64 lb, .int .i64 0]) (by simp [results, Try.results30, go_sem, s0, s1, s2, s3, hlN1]) rfl ?_
          rw [XhM2.out, XhbB.out, Xhlb0.out]
          exact ⟨_, _, _, rfl, noRule_in _ _, (Xhso.out.keep (XkS.out _ _ _ _) (fun b cs t h _ _ => by omega)).mono (by have := XhN.out; omega), Xkwr.out.trans ((XkS.out _ _ _ _).mono fun b _ h => by have := XhN.out; omega)⟩
        · obtain ⟨bc, hbc⟩ : ∃ p, best = some p := by
            cases best with
            | none => exact absurd rfl hb0
            | some p => exact ⟨p, rfl⟩
          obtain ⟨c0, s9⟩ := bc
          subst hbc
          clear hb0
          go_wp2_with fail
          refine bodyPost_ret (v := .tuple #[.agg #[.string pp, .slice aa args.length ca, .slice ab body.length cb, .slice asv (stpB (some (c0, s9))).length csv], .float .f64 lb, .int .i64 0]) (by simp [results, Try.results30, go_sem, s0, s1, s2, s3, hlN1]) rfl ?_
          rw [XhM2.out, XhbB.out, Xhlb0.out]
          have kend : Keep (fun b => b < w.heap.size) w ((((wr.setCell ⟨N + 1, 0, none⟩ (.string pp)).setCell ⟨N + 1, 1, none⟩ (.slice aa args.length ca)).setCell ⟨N + 1, 2, none⟩ (.slice ab body.length cb)).setCell ⟨N + 1, 3, none⟩ (.slice asv (stpB (some (c0, s9))).length csv)) := Xkwr.out.trans ((XkS.out _ _ _ _).mono fun b _ h => by have := XhN.out; omega)
          exact ⟨_, _, _, rfl, Xhr.out.keep (kend.mono fun b _ h => by have := XhN.out; omega), (Xhso.out.keep (XkS.out _ _ _ _) (fun b cs t h _ _ => by omega)).mono (by have := XhN.out; omega), kend⟩
  · have hM2 : refLeastD ⟨⟨pr, args⟩, body⟩ l = (noPlan, 0, ea) := by
      rw [XhM.out, hea, if_pos he0]
    have hne : ((ea : Int) != 0) = true := bne_iff_ne.2 he0
    clear hea he0
    have XhM2 := Lib.hid hM2
    have Xhk1 := Lib.hid hk1
    clear hM2 hk1
    go_wp2_with fail
    refine Xhk1.out.mono ?_
    rintro e W1 ⟨rfl, k1⟩
    have hz1 := k1.size
    have a3' := k1.heap Xa2.out hNl1
    have s0 := cells_of_block a3' 0 _ rfl
    have s1 := cells_of_block a3' 1 _ rfl
    have s2 := cells_of_block a3' 2 _ rfl
    have s3 := cells_of_block a3' 3 _ rfl
    have t0 := box_free a3' 0
    have t1 := box_free a3' 1
    have t2 := box_free a3' 2
    have t3 := box_free a3' 3
    simp only [Nat.zero_add] at s0 s1 s2 s3
    have hNl3 : N + 1 < W1.heap.size := by omega
    clear a3'
    have Xk1 := Lib.hid k1
    clear k1
    go_wp2_with fail
    refine bodyPost_ret (v := .tuple #[.agg #[.string ⟨#[]⟩, .slice none 0 0, .slice none 0 0, .slice none 0 0], .float .f64 0, .int .i64 ea]) (by simp [results, Try.results30, go_sem, s0, s1, s2, s3, hNl3]) rfl ?_
    rw [XhM2.out]
    have kS : Keep (fun b => b ≠ N + 1) W1 ((((W1.setCell ⟨N + 1, 0, none⟩ (.string ⟨#[]⟩)).setCell ⟨N + 1, 1, none⟩ (.slice none 0 0)).setCell ⟨N + 1, 2, none⟩ (.slice none 0 0)).setCell ⟨N + 1, 3, none⟩ (.slice none 0 0)) :=
      (((Keep.setCell _ _ _ (by simp)).trans (Keep.setCell _ _ _ (by simp))).trans (Keep.setCell _ _ _ (by simp))).trans (Keep.setCell _ _ _ (by simp))
    exact ⟨_, _, _, rfl, noRule_in _ _, StepsOwn.nil _ _, ((Xk0.out.trans (Xk1.out.mono fun b _ h => by omega)).trans (kS.mono fun b _ h => by omega)).mono fun b _ h => by have := XhN.out; omega⟩
end Go.Proofs
