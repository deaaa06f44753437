/- Layer 16 (plan): the document's Planned: the plan that looks at the literals in an order. -/
import Derived.Test.YtichfebfcapnhaaProg
import Derived.Test.YtichfebfcapnhaaPpGToPpH
namespace Go.Proofs
open Go.RowKit Go.Ink Go.Flt
set_option linter.unusedVariables false
set_option linter.unusedSimpArgs false
attribute [local go_sem] Oper.semAt_some

set_option maxRecDepth 100000 in
set_option maxHeartbeats 1000000 in
theorem planned_any (n : Nat) (r : RuleD) (hF : formedB r = true) (sh sb : Value) (ord : List Int) (vo : Value) (w : World) (hr : RuleIn n w sh sb r) (ho : IntsIn n w vo ord) (hn : n ≤ w.heap.size) :
    Calls Try.prog 57 #[ruleV r sh sb, vo] w fun e w' => ∃ (ss : List StepD) (vs : Value), e = .returned (.tuple #[.agg #[.string r.head.pred, sh, sb, vs], .bool (plannedP r.body ord).isSome]) ∧ StepsOwn w.heap.size w' vs ss ∧ (∀ s, plannedP r.body ord = some s → s = ss) ∧ Keep (fun b => b < w.heap.size) w w' := by
  obtain ⟨h256, -⟩ := formed_args hF
  have hsl := fun k s h => plSt_len hF (ord := ord) k s h
  have hE : plannedP r.body ord = if ord.length = r.body.length then (plSt r.body ord ord.length).map (·.2.2) else none := rfl
  obtain ⟨⟨pr, args⟩, body⟩ := r
  unfold ruleV
  simp only at hsl h256 hE ⊢
  have hready := fun (i : Nat) (x : LitD) (hx : body[i]? = some x) K vk sa (hsa : TermsIn n w sa x.atom.args) W (hS : StrsIn W.heap.size W vk K) (hK : Keep (fun b => b < w.heap.size) w W) => refReady_any W.heap.size K vk x sa W hS (terms_wider (terms_keep hsa (hK.mono fun b _ h => by omega)) (by have := hK.size; omega)) (Nat.le_refl _)
  have hstep := fun (i : Nat) (x : LitD) (hx : body[i]? = some x) K vk W (hS : StrsIn W.heap.size W vk K) (hK : Keep (fun b => b < w.heap.size) w W) => refStep_any W.heap.size K vk ⟨⟨pr, args⟩, body⟩ sh sb i x hx W hS ((hr.keep (hK.mono fun b _ h => by omega)).wider (by have := hK.size; omega)) (Nat.le_refl _)
  unfold ruleV at hstep
  simp only at hstep
  obtain ⟨hh, hb⟩ := id hr
  simp only at hh hb
  obtain ⟨aa, ca, rfl, hla, -, -⟩ := id hh
  obtain ⟨ab, cb, rfl, hlb, hcb, heb⟩ := id hb
  obtain ⟨ao, co, rfl, hlo, hco, heo⟩ := id ho
  obtain ⟨N, hN⟩ : ∃ N, w.heap.size = N := ⟨_, rfl⟩
  have hnN : n ≤ N := by omega
  have hfn := fun (i : Nat) (x : LitD) (hx : body[i]? = some x) K j => formed_new hF (List.mem_of_getElem? hx) K j
  clear hh hb hr ho hF
  have XhE := Lib.hid hE
  have Xheb := Lib.hid heb
  have Xheo := Lib.hid heo
  have Xhready := Lib.hid hready
  have Xhstep := Lib.hid hstep
  have Xhsl := Lib.hid hsl
  have XhN := Lib.hid hN
  have Xhfn := Lib.hid hfn
  clear hE heb heo hready hstep hsl hN hfn
  go_enter Try.func57, Try.ntmps57
  go_upto_region 2 with fail
  refine wp_abs (fun W => Keep (fun b => b < w.heap.size) w W ∧ W.heap.size = w.heap.size + 1 + 1 + 1 ∧ W.heap[w.heap.size]? = some (.cells #[.string pr, .slice aa args.length ca, .slice ab body.length cb] 28 (0, 0)) ∧
    W.heap[w.heap.size + 1]? = some (.cells #[.string ⟨#[]⟩, .slice none 0 0, .slice none 0 0, .slice none 0 0] 34 (0, 0)) ∧ W.heap[w.heap.size + 1 + 1]? = some (.cells #[.string pr, .slice aa args.length ca, .slice ab body.length cb, .slice none 0 0] 34 (0, 0)))
    ⟨((Keep.alloc _ _ _).trans (Keep.alloc _ _ _)).trans (Keep.alloc _ _ _), by simp, by simp only [alloc_get, World.size_alloc]; simp; omega, by simp only [alloc_get, World.size_alloc]; simp, by simp only [alloc_get, World.size_alloc]; simp⟩ ?_
  rintro W0 ⟨k0, z0, a1, a2, a3⟩
  rw [XhN.out] at k0 z0 a1 a2 a3 ⊢

  have hNl : N < W0.heap.size := by omega
  have hNl1 : N + 1 < W0.heap.size := by omega
  have hNl2 : N + 1 + 1 < W0.heap.size := by omega
  have c2 := cells_of_block a1 2 _ rfl
  simp only [Nat.zero_add] at c2
  by_cases hln : ord.length = body.length
  · have hlnb : ((ord.length : Int) != body.length) = false := by simp [hln]
    rw [if_pos hln] at XhE
    have hmk := fun u => run_makeBools body.length hlb u
    have Xhln := Lib.hid hln
    have Xk0 := Lib.hid k0
    have Xa1 := Lib.hid a1
    have Xa2 := Lib.hid a2
    have Xa3 := Lib.hid a3
    clear hln k0 a1 a2 a3
    go_upto_region 6 with fail
    refine wp_abs (fun W => Keep (fun b => b < W0.heap.size) W0 W ∧ W.heap.size = W0.heap.size + 1 ∧ W.heap[W0.heap.size]? = some (.cells ((List.replicate body.length false).map Value.bool).toArray 4 (0, 0)))
      ⟨Keep.alloc _ _ _, by simp, by rw [made_eq]; exact new_block _ _⟩ ?_
    rintro W2 ⟨k2, z2, t2⟩
    have b1 := k2.heap Xa1.out hNl
    have b2 := k2.heap Xa2.out hNl1
    have b3 := k2.heap Xa3.out hNl2
    have kw2 : Keep (fun b => b < N) w W2 := Xk0.out.trans (k2.mono fun b _ h => by omega)
    rw [show W0.heap.size = N + 1 + 1 + 1 from z0] at z2 t2
    have hst0 : plSt body ord 0 = some ([], List.replicate body.length false, []) := rfl
    clear hmk c2 k2 hlnb
    have Xb1 := Lib.hid b1
    have Xb2 := Lib.hid b2
    have Xb3 := Lib.hid b3
    have Xkw2 := Lib.hid kw2
    have Xt2 := Lib.hid t2
    have Xhst0 := Lib.hid hst0
    clear b1 b2 b3 kw2 t2 hst0
    go_wp2_with fail
    go_loopw [7, 9] (fun x7 i' wr => ∃ (k : Nat) (vs : Value) (K : List ByteArray) (tk : List Bool) (ss : List StepD), k ≤ ord.length ∧ i' = .int .i64 (k : Int) ∧ plSt body ord k = some (K, tk, ss) ∧ Keep (fun b => b < N + 1 + 1) W2 wr ∧
      wr.heap[N + 1 + 1]? = some (.cells #[.string pr, .slice aa args.length ca, .slice ab body.length cb, vs] 34 (0, 0)) ∧ wr.heap[N + 1 + 1 + 1]? = some (.cells (tk.map Value.bool).toArray 4 (0, 0)) ∧
      wr.ownsRow (N + 1 + 1 + 1 + 1) 9 1 x7 K.length (K.map .string) ∧ StepsK (N + 1 + 1 + 1 + 1) wr vs ss x7 ∧ N + 1 + 1 + 1 + 1 ≤ wr.heap.size) (fun _ i _ => ord.length - (intOf i).toNat)
    case atStart => exact ⟨0, _, _, _, _, by omega, rfl, Xhst0.out, Keep.refl _ _, Xb3.out, Xt2.out, World.ownsRow_nil _ _ _ _, StepsK.nil _ _ _, by omega⟩
    case round =>
      obtain ⟨k, vs, K, tk, ss, hk, rfl, hst, hK, hP, hT, hkn, hsk, hsz⟩ := hrel
      obtain ⟨hKl, htl, hssl⟩ := Xhsl.out k _ hst
      simp only at hKl htl hssl
      obtain ⟨asv, csv, rfl⟩ := hsk.own.form
      rw [hssl] at hP hsk
      have Xhssl := Lib.hid hssl
      clear hssl
      have a1 := hK.heap Xb1.out (show N < N + 1 + 1 by omega)
      have a2 := hK.heap Xb2.out (show N + 1 < N + 1 + 1 by omega)
      have c0 := cells_of_block a1 0 _ rfl
      have c1 := cells_of_block a1 1 _ rfl
      have c2 := cells_of_block a1 2 _ rfl
      have r0 := cells_of_block a2 0 _ rfl
      have r1 := cells_of_block a2 1 _ rfl
      have r2 := cells_of_block a2 2 _ rfl
      have r3 := cells_of_block a2 3 _ rfl
      have f0 := box_free a2 0
      have f1 := box_free a2 1
      have f2 := box_free a2 2
      have f3 := box_free a2 3
      have p0 := cells_of_block hP 0 _ rfl
      have p1 := cells_of_block hP 1 _ rfl
      have p2 := cells_of_block hP 2 _ rfl
      have p3 := cells_of_block hP 3 _ rfl
      simp only [Nat.zero_add] at c0 c1 c2 r0 r1 r2 r3 p0 p1 p2 p3
      have hNw : N < wr.heap.size := by omega
      have hNw1 : N + 1 < wr.heap.size := by omega
      have hNw2 : N + 1 + 1 < wr.heap.size := by omega
      have kw : Keep (fun b => b < N) w wr := Xkw2.out.trans (hK.mono fun b _ h => by omega)
      have kww : Keep (fun b => b < w.heap.size) w wr := kw.mono fun b _ h => by have := XhN.out; omega
      have hbadE : ∀ n, ord[k]? = some n → plOne body n (K, tk, ss) = none → plannedP body ord = none := fun n hn h => by
        have hg : ord.getD k default = n := by rw [List.getD_eq_getElem?_getD, hn]; rfl
        have : plSt body ord (k + 1) = none := by show (plSt body ord k).bind (plOne body (ord.getD k default)) = none; rw [hst, hg]; exact h
        rw [XhE.out, plSt_none this ord.length (by have := (List.getElem?_eq_some_iff.1 hn).1; omega)]
        rfl
      clear a1 a2
      by_cases hlt : k < ord.length
      · have hlt1 : (k : Int) < ord.length := by omega
        have hk0 : (0 : Int) ≤ k := by omega
        obtain ⟨nn, hnn⟩ : ∃ x, ord[k]? = some x := ⟨_, List.getElem?_eq_getElem hlt⟩
        obtain ⟨b8, o8, rfl, hb8, hcl⟩ := Xheo.out k nn hnn
        have d0 := kw.cell hcl (show b8 < N by omega)
        simp only [Nat.mul_one] at d0
        have hb8w : b8 < wr.heap.size := by omega
        have hbadN := hbadE nn hnn
        have hnext : plSt body ord (k + 1) = plOne body nn (K, tk, ss) := by
          show (plSt body ord k).bind (plOne body (ord.getD k default)) = _
          rw [hst, List.getD_eq_getElem?_getD, hnn]; rfl
        clear hcl hbadE
        by_cases h1 : nn < 0
        · have hF := hbadN (by unfold plOne; rw [if_neg (fun h => by have := h.1; omega)])
          have XhK := Lib.hid hK
          have Xhst := Lib.hid hst
          have XhP := Lib.hid hP
          have XhT := Lib.hid hT
          have Xhkn := Lib.hid hkn
          have Xhsk := Lib.hid hsk
          have Xkw := Lib.hid kw
          have Xkww := Lib.hid kww
          have Xhnext := Lib.hid hnext
          have XhbadN := Lib.hid hbadN
          have XhF := Lib.hid hF
          have Xhnn := Lib.hid hnn
          clear hK hst hP hT hkn hsk kw kww hnext hbadN hF hnn
          clear c0 c1
          go_wp2_with fail
          refine bodyPost_ret (v := .tuple #[.agg #[.string pr, .slice aa args.length ca, .slice ab body.length cb, .slice asv k csv], .bool false]) (by simp [results, Try.results57, go_sem, r0, r1, r2, r3, hNw1]) rfl ?_
          have kS := (show Keep (fun b => b ≠ N + 1) wr ((((wr.setCell ⟨N + 1, 0, none⟩ (.string pr)).setCell ⟨N + 1, 1, none⟩ (.slice aa args.length ca)).setCell ⟨N + 1, 2, none⟩ (.slice ab body.length cb)).setCell ⟨N + 1, 3, none⟩ (.slice asv k csv)) from (((Keep.setCell _ _ _ (by simp)).trans (Keep.setCell _ _ _ (by simp))).trans (Keep.setCell _ _ _ (by simp))).trans (Keep.setCell _ _ _ (by simp)))
          exact ⟨ss, _, by rw [XhF.out]; rfl, ((Xhsk.out.own).keep kS (fun b cs t h _ _ => by omega)).mono (by have := XhN.out; omega), fun s h => by (rw [XhF.out] at h; cases h), Xkww.out.trans (kS.mono fun b _ h => by have := XhN.out; omega)⟩
        · by_cases h2 : (body.length : Int) ≤ nn
          · have hF := hbadN (by unfold plOne; rw [if_neg (fun h => by have := h.2.1; omega)])
            have XhK := Lib.hid hK
            have Xhst := Lib.hid hst
            have XhP := Lib.hid hP
            have XhT := Lib.hid hT
            have Xhkn := Lib.hid hkn
            have Xhsk := Lib.hid hsk
            have Xkw := Lib.hid kw
            have Xkww := Lib.hid kww
            have Xhnext := Lib.hid hnext
            have XhbadN := Lib.hid hbadN
            have XhF := Lib.hid hF
            have Xhnn := Lib.hid hnn
            clear hK hst hP hT hkn hsk kw kww hnext hbadN hF hnn
            clear c0 c1
            go_wp2_with fail
            refine bodyPost_ret (v := .tuple #[.agg #[.string pr, .slice aa args.length ca, .slice ab body.length cb, .slice asv k csv], .bool false]) (by simp [results, Try.results57, go_sem, r0, r1, r2, r3, hNw1]) rfl ?_
            have kS := (show Keep (fun b => b ≠ N + 1) wr ((((wr.setCell ⟨N + 1, 0, none⟩ (.string pr)).setCell ⟨N + 1, 1, none⟩ (.slice aa args.length ca)).setCell ⟨N + 1, 2, none⟩ (.slice ab body.length cb)).setCell ⟨N + 1, 3, none⟩ (.slice asv k csv)) from (((Keep.setCell _ _ _ (by simp)).trans (Keep.setCell _ _ _ (by simp))).trans (Keep.setCell _ _ _ (by simp))).trans (Keep.setCell _ _ _ (by simp)))
            exact ⟨ss, _, by rw [XhF.out]; rfl, ((Xhsk.out.own).keep kS (fun b cs t h _ _ => by omega)).mono (by have := XhN.out; omega), fun s h => by (rw [XhF.out] at h; cases h), Xkww.out.trans (kS.mono fun b _ h => by have := XhN.out; omega)⟩
          · obtain ⟨i, rfl⟩ : ∃ i : Nat, nn = i := ⟨nn.toNat, by omega⟩
            have hi0 : (0 : Int) ≤ i := by omega
            have hi1 : (i : Int) < body.length := by omega
            obtain ⟨tb, htb⟩ : ∃ t, tk.getD i true = t := ⟨_, rfl⟩
            have hlt' : i < tk.length := by omega
            have htc : wr.cell? ⟨N + 1 + 1 + 1, i, none⟩ = some (.bool tb) := by
              have := cells_of_block hT i (.bool tb) (by rw [List.getElem?_map, List.getElem?_eq_getElem hlt', ← htb, List.getD_eq_getElem?_getD, List.getElem?_eq_getElem hlt']; rfl)
              rwa [Nat.zero_add] at this
            have hTl := heap_lt hT
            cases tb
            · obtain ⟨L, hL⟩ : ∃ L, body[i]? = some L := ⟨_, List.getElem?_eq_getElem (by omega)⟩
              obtain ⟨b4, o4, rfl, hb4, sa, hcl4, hsa⟩ := Xheb.out i L hL
              have hgd : body.getD i default = L := by rw [List.getD_eq_getElem?_getD, hL]; rfl
              have hKn := own_strs hkn (by have := Xhln.out; omega)
              have hrd := Xhready.out i L hL K u7 sa hsa wr hKn kww
              have hstp := Xhstep.out i L hL K u7
              have hnew16 := Xhfn.out i L hL K i
              obtain ⟨asa, csa, rfl, hlx, -, -⟩ := id hsa
              have g : ∀ j v, (litCells L (.slice asa L.atom.args.length csa))[j]? = some v → wr.cell? ⟨b4, o4 + i * 7 + j, none⟩ = some v := fun j v h => kw.cell (hcl4 j v h) (show b4 < N by have := XhN.out; omega)
              have m0 := g 0 _ rfl
              have m1 := g 1 _ rfl
              have m2 := g 2 _ rfl
              have m3 := g 3 _ rfl
              have m4 := g 4 _ rfl
              have m5 := g 5 _ rfl
              have m6 := g 6 _ rfl
              simp only [Nat.add_zero] at m0
              have hb4w : b4 < wr.heap.size := by omega
              obtain ⟨rb, hrb⟩ : ∃ b, readyP K L = b := ⟨_, rfl⟩
              rw [hrb] at hrd
              unfold litV at hrd
              have hone : plOne body (i : Int) (K, tk, ss) = if rb = true then some (K ++ (stepP K L i).new, tk.set i true, ss ++ [stepP K L i]) else none := by
                unfold plOne
                simp only [Int.toNat_natCast]
                rw [htb, hgd, hrb]
                by_cases h : rb = true
                · rw [if_pos ⟨hi0, hi1, rfl, h⟩, if_pos h]
                · rw [if_neg (fun x => h x.2.2.2), if_neg h]
              obtain ⟨ak, ck, rfl⟩ := own_form hkn
              clear g hcl4 hsa hL
              cases rb
              · rw [if_neg (by simp)] at hone
                have hF := hbadN hone
                clear c0 c1 r0 r1 r2 r3 f0 f1 f2 f3 p0 p1 p2 p3
                have XhK := Lib.hid hK
                have Xhst := Lib.hid hst
                have XhP := Lib.hid hP
                have XhT := Lib.hid hT
                have Xhkn := Lib.hid hkn
                have Xhsk := Lib.hid hsk
                have Xkw := Lib.hid kw
                have Xkww := Lib.hid kww
                have Xhnext := Lib.hid hnext
                have XhbadN := Lib.hid hbadN
                have XhF := Lib.hid hF
                have Xhnn := Lib.hid hnn
                have Xhone := Lib.hid hone
                have Xhtb := Lib.hid htb
                have Xhrd := Lib.hid hrd
                have Xhstp := Lib.hid hstp
                have Xhrb := Lib.hid hrb
                have Xhgd := Lib.hid hgd
                have XhKn := Lib.hid hKn
                clear hK hst hP hT hkn hsk kw kww hnext hbadN hF hnn hone htb hrd hstp hrb hgd hKn
                go_wp2_with fail
                refine Xhrd.out.mono ?_
                rintro e W6 ⟨rfl, k6⟩
                have hz6 := k6.size
                have a2 := k6.heap (XhK.out.heap Xb2.out (show N + 1 < N + 1 + 1 by omega)) hNw1
                have aP := k6.heap XhP.out hNw2
                have r0 := cells_of_block a2 0 _ rfl
                have r1 := cells_of_block a2 1 _ rfl
                have r2 := cells_of_block a2 2 _ rfl
                have r3 := cells_of_block a2 3 _ rfl
                have f0 := box_free a2 0
                have f1 := box_free a2 1
                have f2 := box_free a2 2
                have f3 := box_free a2 3
                have p0 := cells_of_block aP 0 _ rfl
                have p1 := cells_of_block aP 1 _ rfl
                have p2 := cells_of_block aP 2 _ rfl
                have p3 := cells_of_block aP 3 _ rfl
                simp only [Nat.zero_add] at r0 r1 r2 r3 p0 p1 p2 p3
                have hN6 : N + 1 < W6.heap.size := by omega
                have hN62 : N + 1 + 1 < W6.heap.size := by omega
                clear a2 aP
                have Xk6 := Lib.hid k6
                clear k6
                go_wp2_with fail
                refine bodyPost_ret (v := .tuple #[.agg #[.string pr, .slice aa args.length ca, .slice (some ⟨b4, o4, none⟩) body.length cb, .slice asv k csv], .bool false]) (by simp [results, Try.results57, go_sem, r0, r1, r2, r3, hN6]) rfl ?_
                have kS := (show Keep (fun b => b ≠ N + 1) W6 ((((W6.setCell ⟨N + 1, 0, none⟩ (.string pr)).setCell ⟨N + 1, 1, none⟩ (.slice aa args.length ca)).setCell ⟨N + 1, 2, none⟩ (.slice (some ⟨b4, o4, none⟩) body.length cb)).setCell ⟨N + 1, 3, none⟩ (.slice asv k csv)) from (((Keep.setCell _ _ _ (by simp)).trans (Keep.setCell _ _ _ (by simp))).trans (Keep.setCell _ _ _ (by simp))).trans (Keep.setCell _ _ _ (by simp)))
                exact ⟨ss, _, by rw [XhF.out]; rfl, (((Xhsk.out.own).keep Xk6.out (fun b cs t h h2 _ => heap_lt h2)).keep kS (fun b cs t h _ _ => by omega)).mono (by have := XhN.out; omega), fun s h => by (rw [XhF.out] at h; cases h), (Xkww.out.trans (Xk6.out.mono fun b _ h => by have := XhN.out; omega)).trans (kS.mono fun b _ h => by have := XhN.out; omega)⟩
              · rw [if_pos rfl] at hone
                have hsame := step_same hrb i
                obtain ⟨hsl1, hsl2, -⟩ := step_len K L i
                have hslit := step_lit K L i
                obtain ⟨st, hste⟩ : ∃ st, stepP K L i = st := ⟨_, rfl⟩
                rw [hste] at hsl1 hsl2 hslit hone hsame hnew16
                obtain ⟨slit, sbd, snw⟩ := st
                simp only at hsl1 hsl2 hslit hnew16 hone
                subst hslit
                simp only [hsame] at hstp
                have hst2 : plSt body ord (k + 1) = some (K ++ snw, tk.set i true, ss ++ [⟨(i : Int), sbd, snw⟩]) := by rw [hnext, hone]
                have a1 := hK.heap Xb1.out (show N < N + 1 + 1 by omega)
                have hKlen : K.length ≤ 1073741824 := by have := Xhln.out; omega
                have hkb : ∀ b, Value.ownBlock (.slice ak K.length ck) = some b → N + 1 + 1 + 1 + 1 ≤ b ∧ b < wr.heap.size := fun b hb => World.ownsRow.lt hkn b hb
                have htlL : (tk.map Value.bool).length = body.length := by rw [List.length_map]; exact htl
                clear c0 c1 r0 r1 r2 r3 f0 f1 f2 f3 p0 p1 p2 p3 hone hsame hste hnext hbadN
                have XhK := Lib.hid hK
                have Xhst := Lib.hid hst
                have XhP := Lib.hid hP
                have XhT := Lib.hid hT
                have Xhkn := Lib.hid hkn
                have Xhsk := Lib.hid hsk
                have Xkw := Lib.hid kw
                have Xkww := Lib.hid kww
                have Xhnn := Lib.hid hnn
                have Xhtb := Lib.hid htb
                have Xhrd := Lib.hid hrd
                have Xhstp := Lib.hid hstp
                have Xhrb := Lib.hid hrb
                have Xhgd := Lib.hid hgd
                have XhKn := Lib.hid hKn
                have Xhst2 := Lib.hid hst2
                have Xa1 := Lib.hid a1
                have Xhkb := Lib.hid hkb
                have Xhtl := Lib.hid htl
                have XhtlL := Lib.hid htlL
                clear hK hst hP hT hkn hsk kw kww hnn htb hrd hstp hrb hgd hKn hst2 a1 hkb htl htlL
                go_wp2_with fail
                refine Xhrd.out.mono ?_
                rintro e W6 ⟨rfl, k6⟩
                have hz6 := k6.size
                have hT6 := k6.heap XhT.out hTl
                have a16 := k6.heap Xa1.out hNw
                have e0 := cells_of_block a16 0 _ rfl
                have e1 := cells_of_block a16 1 _ rfl
                have e2 := cells_of_block a16 2 _ rfl
                simp only [Nat.zero_add] at e0 e1 e2
                have hNl6 : N < W6.heap.size := by omega
                have htx : i < (tk.map Value.bool).length := by rw [XhtlL.out]; omega
                have htc6 := cells_of_block hT6 i _ (List.getElem?_eq_getElem htx)
                have htf6 := box_free hT6 i
                rw [Nat.zero_add] at htc6
                have hTl6 := heap_lt hT6
                obtain ⟨W7, hW7⟩ : ∃ W7, W6.setCell ⟨N + 1 + 1 + 1, i, none⟩ (.bool true) = W7 := ⟨_, rfl⟩
                have k7 : Keep (fun b => b ≠ N + 1 + 1 + 1) W6 W7 := by rw [← hW7]; exact Keep.setCell _ _ _ (by simp)
                have hz7 := k7.size
                have hT7 := set_at i (.bool true) hT6
                rw [hW7, show (tk.map Value.bool).toArray.setIfInBounds i (.bool true) = ((tk.set i true).map Value.bool).toArray from by rw [List.setIfInBounds_toArray, List.map_set]] at hT7
                have k67 : Keep (fun b => b < wr.heap.size ∧ b ≠ N + 1 + 1 + 1) wr W7 := (k6.mono fun b _ h => h.1).trans (k7.mono fun b _ h => h.2)
                have hkn7 := own_kept Xhkn.out k67 (fun b hb => by have := Xhkb.out b hb; omega)
                have hkw7 : Keep (fun b => b < w.heap.size) w W7 := Xkww.out.trans (k67.mono fun b _ h => by have := XhN.out; omega)
                have hstp7 := Xhstp.out W7 (own_strs hkn7 hKlen) hkw7
                have a17 := k67.heap Xa1.out (by omega)
                have hP7 := k67.heap XhP.out (by omega)
                have hsk7 := Xhsk.out.keep k67 (fun b cs t h h2 _ => ⟨heap_lt h2, by omega⟩)
                have hK7 : Keep (fun b => b < N + 1 + 1) W2 W7 := XhK.out.trans (k67.mono fun b _ h => by omega)
                have c0 := cells_of_block a17 0 _ rfl
                have c1 := cells_of_block a17 1 _ rfl
                have c2' := cells_of_block a17 2 _ rfl
                simp only [Nat.zero_add] at c0 c1 c2'
                have hN7 : N < W7.heap.size := by omega
                have hsz7 : N + 1 + 1 + 1 + 1 ≤ W7.heap.size := by omega
                have hkb7 : ∀ b, Value.ownBlock (.slice ak K.length ck) = some b → N + 1 + 1 + 1 + 1 ≤ b ∧ b < W7.heap.size := fun b hb => by have := Xhkb.out b hb; omega
                clear a16 k6 k7 k67 hT6 m0 m1 m2 m3 m4 m5 m6 htc
                have XhW7 := Lib.hid hW7
                have XhT7 := Lib.hid hT7
                have Xhkn7 := Lib.hid hkn7
                have Xhkw7 := Lib.hid hkw7
                have Xhstp7 := Lib.hid hstp7
                have XhP7 := Lib.hid hP7
                have Xhsk7 := Lib.hid hsk7
                have XhK7 := Lib.hid hK7
                have Xhkb7 := Lib.hid hkb7
                have Xa17 := Lib.hid a17
                clear hW7 hT7 hkn7 hkw7 hstp7 hP7 hsk7 hK7 hkb7 a17
                go_wp2_with fail
                rw [XhW7.out]
                go_wp2_with fail
                refine Xhstp7.out.mono ?_
                rintro e W8 ⟨vb, vn, rfl, ob, on, k8⟩
                have hz8 := k8.size
                obtain ⟨abx, cbx, rfl⟩ := own_form ob
                obtain ⟨anx, cnx, rfl⟩ := own_form on
                obtain ⟨W9, hW9⟩ : ∃ W9, W8.alloc (.cells #[.int .i64 (i : Int), .slice abx sbd.length cbx, .slice anx snw.length cnx] 73) = W9 := ⟨_, rfl⟩
                have k9 : Keep (fun _ => True) W8 W9 := by rw [← hW9]; exact Keep.alloc _ _ _
                have z9 : W9.heap.size = W8.heap.size + 1 := by rw [← hW9]; simp
                have bD := new_block W8 (.cells #[.int .i64 (i : Int), .slice abx sbd.length cbx, .slice anx snw.length cnx] 73)
                rw [hW9] at bD
                obtain ⟨D, hD⟩ : ∃ D, W8.heap.size = D := ⟨_, rfl⟩
                rw [hD] at bD z9
                have k79 : Keep (fun b => b < W7.heap.size) W7 W9 := k8.trans (k9.mono fun _ _ _ => trivial)
                have hkn9 := own_kept Xhkn7.out k79 (fun b hb => (Xhkb7.out b hb).2)
                have ob9 := own_kept ob k9 (fun _ _ => trivial)
                have on9 := own_kept on k9 (fun _ _ => trivial)
                have hsk9 := Xhsk7.out.keep k79 (fun b cs t h h2 _ => heap_lt h2)
                have hP9 := k79.heap XhP7.out (by omega)
                have hT9 := k79.heap XhT7.out (by omega)
                have hK9 : Keep (fun b => b < N + 1 + 1) W2 W9 := XhK7.out.trans (k79.mono fun b _ h => by omega)
                have hsrc := own_src on9
                obtain ⟨v', W10, hr10, hkn10, hg10, hk10⟩ := appA (P := Try.prog) el_strs 71 hkn9 anx snw.length cnx (snw.map .string) (by simp) hsrc.1 hsrc.2 (by simp [Value.oneCell']) (by omega) (by omega)
                rw [← List.map_append, ← List.length_append] at hkn10
                obtain ⟨ak2, ck2, rfl⟩ := own_form hkn10
                have hsk10 := hsk9.known hkn9 hg10 hk10
                have hoff : ∀ b, W7.heap.size ≤ b → b < W9.heap.size → Value.ownBlock (.slice ak2 (K ++ snw).length ck2) ≠ some b := fun b h1 h2 e => by
                  rcases hg10 b e with h | h
                  · have := (Xhkb7.out b h).2; omega
                  · omega
                have hoff2 : ∀ b, b < N + 1 + 1 + 1 + 1 → Value.ownBlock (.slice ak2 (K ++ snw).length ck2) ≠ some b := fun b h1 e => by
                  rcases hg10 b e with h | h
                  · have := (Xhkb7.out b h).1; omega
                  · omega
                have ob10 := own_kept ob9 hk10 (fun b hb => by have := World.ownsRow.lt ob9 b hb; exact hoff b this.1 this.2)
                have on10 := own_kept on9 hk10 (fun b hb => by have := World.ownsRow.lt on9 b hb; exact hoff b this.1 this.2)
                have hz10 := hk10.size
                have bD10 := hk10.heap bD (hoff D (by omega) (by omega))
                have hP10 := hk10.heap hP9 (hoff2 _ (by omega))
                have hT10 := hk10.heap hT9 (hoff2 _ (by omega))
                have hK10 : Keep (fun b => b < N + 1 + 1) W2 W10 := hK9.trans (hk10.mono fun b _ h => hoff2 b (by omega))
                obtain ⟨v'', W11, hr11, hsk11, k11⟩ := hsk10.snoc ⟨(i : Int), sbd, snw⟩ _ _ (ob10.mono hsz7) (on10.mono hsz7) (fun b hb => by have := World.ownsRow.lt on9 b hb; exact hoff b this.1 this.2) (by rw [Xhssl.out]; omega) (by omega)
                obtain ⟨qs10, _, hown10, _⟩ := hsk10
                have hob10 : ∀ b, some b = Value.ownBlock (.slice asv k csv) → N + 1 + 1 + 1 + 1 ≤ b := fun b hb => (World.ownsRow.lt hown10 b hb.symm).1
                have hkn11 := own_kept hkn10 k11 (fun b hb e => by
                  obtain ⟨c1, t1⟩ := own_typed hkn10 hb
                  obtain ⟨c2, t2⟩ := own_typed hown10 e.symm
                  rw [t1] at t2
                  cases t2)
                have hP11 := k11.heap hP10 (fun e => by have := hob10 _ e; omega)
                have hT11 := k11.heap hT10 (fun e => by have := hob10 _ e; omega)
                have hK11 : Keep (fun b => b < N + 1 + 1) W2 W11 := hK10.trans (k11.mono fun b _ h e => by have := hob10 _ e; omega)
                obtain ⟨av11, cv11, rfl⟩ := hsk11.own.form
                have hlen11 : (ss ++ [(⟨(i : Int), sbd, snw⟩ : StepD)]).length = k + 1 := by rw [List.length_append, Xhssl.out]; rfl
                rw [hlen11] at hr11 hsk11
                have t0 := cells_of_block hP11 3 _ rfl
                have t0f := box_free hP11 3
                have t1 := cells_of_block hP10 3 _ rfl
                have v0 := cells_of_block bD10 0 _ rfl
                have v1 := cells_of_block bD10 1 _ rfl
                have v2 := cells_of_block bD10 2 _ rfl
                have v29 := cells_of_block bD 2 _ rfl
                simp only [Nat.zero_add] at t0 t1 v0 v1 v2 v29
                have hDl9 := heap_lt bD
                have hDl10 := heap_lt bD10
                have hPl10 := heap_lt hP10
                have hPl11 := heap_lt hP11
                have hz11 := k11.size
                obtain ⟨W12, hW12⟩ : ∃ W12, W11.setCell ⟨N + 1 + 1, 3, none⟩ (.slice av11 (k + 1) cv11) = W12 := ⟨_, rfl⟩
                have k12 : Keep (fun b => b ≠ N + 1 + 1) W11 W12 := by rw [← hW12]; exact Keep.setCell _ _ _ (by simp)
                have hz12 := k12.size
                have hP12 := set_at 3 (.slice av11 (k + 1) cv11) hP11
                rw [hW12] at hP12
                simp only [List.setIfInBounds_toArray, List.set_cons_succ, List.set_cons_zero] at hP12
                have hT12 := k12.heap hT11 (by omega)
                have hkn12 := own_kept hkn11 k12 (fun b hb => by have := World.ownsRow.lt hkn11 b hb; omega)
                have hsk12 := hsk11.keep k12 (fun b cs t h _ _ => by omega)
                have hK12 : Keep (fun b => b < N + 1 + 1) W2 W12 := hK11.trans (k12.mono fun b _ h => by omega)
                clear k8 k9 k79 ob on hkn9 ob9 on9 hsk9 hP9 hT9 hK9 hsrc hkn10 hg10 hk10 hoff hoff2 ob10 on10 bD bD10 hP10 hT10 hK10 hown10 hob10 hkn11 hP11 hT11 hK11 hsk11 k11 k12 hlen11 c0 c1 c2'
                have XhW9 := Lib.hid hW9
                have XhD := Lib.hid hD
                have Xhr10 := Lib.hid hr10
                have Xhr11 := Lib.hid hr11
                have XhW12 := Lib.hid hW12
                have XhP12 := Lib.hid hP12
                have XhT12 := Lib.hid hT12
                have Xhkn12 := Lib.hid hkn12
                have Xhsk12 := Lib.hid hsk12
                have XhK12 := Lib.hid hK12
                clear hW9 hD hr10 hr11 hW12 hP12 hT12 hkn12 hsk12 hK12
                go_upto_region 14 with fail
                rw [XhW9.out, XhD.out]
                go_wp2_with (at_builtin; first | refine go_app (v := .slice ak K.length ck) (u := .slice anx snw.length cnx) (v' := .slice ak2 (K ++ snw).length ck2) (w' := W10) rfl (.tmp 68) (.tmp 70) 71 rfl rfl rfl Xhr10.out ?_ | refine go_app (v := .slice asv k csv) (u := .slice (some ⟨W10.heap.size, 0, none⟩) 1 1) (v' := .slice av11 (k + 1) cv11) (w' := W11) rfl (.tmp 73) (.tmp 75) 32 rfl rfl rfl Xhr11.out ?_)
                rw [XhW12.out]
                go_roundw
                case rel => exact ⟨k + 1, _, _, _, _, by omega, by go_num, Xhst2.out, XhK12.out, XhP12.out, XhT12.out, by rw [← List.length_append]; exact Xhkn12.out, by rw [← List.length_append]; exact Xhsk12.out, by have := XhD.out; omega⟩
                case measure => simp [intOf]; omega
            · have hF := hbadN (by unfold plOne; rw [if_neg (fun h => by have := h.2.2.1; simp only [Int.toNat_natCast] at this; rw [htb] at this; cases this)])
              have XhK := Lib.hid hK
              have Xhst := Lib.hid hst
              have XhP := Lib.hid hP
              have XhT := Lib.hid hT
              have Xhkn := Lib.hid hkn
              have Xhsk := Lib.hid hsk
              have Xkw := Lib.hid kw
              have Xkww := Lib.hid kww
              have Xhnext := Lib.hid hnext
              have XhbadN := Lib.hid hbadN
              have XhF := Lib.hid hF
              have Xhnn := Lib.hid hnn
              have Xhtb := Lib.hid htb
              clear hK hst hP hT hkn hsk kw kww hnext hbadN hF hnn htb
              clear c0 c1
              go_wp2_with fail
              refine bodyPost_ret (v := .tuple #[.agg #[.string pr, .slice aa args.length ca, .slice ab body.length cb, .slice asv k csv], .bool false]) (by simp [results, Try.results57, go_sem, r0, r1, r2, r3, hNw1]) rfl ?_
              have kS := (show Keep (fun b => b ≠ N + 1) wr ((((wr.setCell ⟨N + 1, 0, none⟩ (.string pr)).setCell ⟨N + 1, 1, none⟩ (.slice aa args.length ca)).setCell ⟨N + 1, 2, none⟩ (.slice ab body.length cb)).setCell ⟨N + 1, 3, none⟩ (.slice asv k csv)) from (((Keep.setCell _ _ _ (by simp)).trans (Keep.setCell _ _ _ (by simp))).trans (Keep.setCell _ _ _ (by simp))).trans (Keep.setCell _ _ _ (by simp)))
              exact ⟨ss, _, by rw [XhF.out]; rfl, ((Xhsk.out.own).keep kS (fun b cs t h _ _ => by omega)).mono (by have := XhN.out; omega), fun s h => by (rw [XhF.out] at h; cases h), Xkww.out.trans (kS.mono fun b _ h => by have := XhN.out; omega)⟩
      · obtain rfl : k = ord.length := by omega
        have hE2 : plannedP body ord = some ss := by rw [XhE.out, hst]; rfl
        clear c0 c1 hbadE
        have XhK := Lib.hid hK
        have Xhst := Lib.hid hst
        have XhP := Lib.hid hP
        have XhT := Lib.hid hT
        have Xhkn := Lib.hid hkn
        have Xhsk := Lib.hid hsk
        have Xkw := Lib.hid kw
        have Xkww := Lib.hid kww
        have XhE2 := Lib.hid hE2
        clear hK hst hP hT hkn hsk kw kww hE2
        go_wp2_with fail
        refine bodyPost_ret (v := .tuple #[.agg #[.string pr, .slice aa args.length ca, .slice ab body.length cb, .slice asv ord.length csv], .bool true]) (by simp [results, Try.results57, go_sem, r0, r1, r2, r3, hNw1]) rfl ?_
        have kS : Keep (fun b => b ≠ N + 1) wr ((((wr.setCell ⟨N + 1, 0, none⟩ (.string pr)).setCell ⟨N + 1, 1, none⟩ (.slice aa args.length ca)).setCell ⟨N + 1, 2, none⟩ (.slice ab body.length cb)).setCell ⟨N + 1, 3, none⟩ (.slice asv ord.length csv)) :=
          (((Keep.setCell _ _ _ (by simp)).trans (Keep.setCell _ _ _ (by simp))).trans (Keep.setCell _ _ _ (by simp))).trans (Keep.setCell _ _ _ (by simp))
        exact ⟨ss, _, by rw [XhE2.out]; rfl, ((Xhsk.out.own).keep kS (fun b cs t h _ _ => by omega)).mono (by have := XhN.out; omega), fun s h => by (rw [XhE2.out] at h; cases h; rfl), Xkww.out.trans (kS.mono fun b _ h => by have := XhN.out; omega)⟩
  · have hlnb : ((ord.length : Int) != body.length) = true := by simp; omega
    rw [if_neg hln] at XhE
    have r0 := cells_of_block a2 0 _ rfl
    have r1 := cells_of_block a2 1 _ rfl
    have r2 := cells_of_block a2 2 _ rfl
    have r3 := cells_of_block a2 3 _ rfl
    have f0 := box_free a2 0
    have f1 := box_free a2 1
    have f2 := box_free a2 2
    have f3 := box_free a2 3
    have p0 := cells_of_block a3 0 _ rfl
    have p1 := cells_of_block a3 1 _ rfl
    have p2 := cells_of_block a3 2 _ rfl
    have p3 := cells_of_block a3 3 _ rfl
    simp only [Nat.zero_add] at r0 r1 r2 r3 p0 p1 p2 p3
    clear hln a1 a2 a3
    have Xk0 := Lib.hid k0
    clear k0
    go_wp2_with fail
    refine bodyPost_ret (v := .tuple #[.agg #[.string pr, .slice aa args.length ca, .slice ab body.length cb, .slice none 0 0], .bool false]) (by simp [results, Try.results57, go_sem, r0, r1, r2, r3, hNl1]) rfl ?_
    have kS : Keep (fun b => b ≠ N + 1) W0 ((((W0.setCell ⟨N + 1, 0, none⟩ (.string pr)).setCell ⟨N + 1, 1, none⟩ (.slice aa args.length ca)).setCell ⟨N + 1, 2, none⟩ (.slice ab body.length cb)).setCell ⟨N + 1, 3, none⟩ (.slice none 0 0)) :=
      (((Keep.setCell _ _ _ (by simp)).trans (Keep.setCell _ _ _ (by simp))).trans (Keep.setCell _ _ _ (by simp))).trans (Keep.setCell _ _ _ (by simp))
    exact ⟨[], _, by rw [XhE.out]; rfl, StepsOwn.nil _ _, fun s h => by (rw [XhE.out] at h; cases h), (Xk0.out.trans (kS.mono fun b _ h => by omega)).mono fun b _ h => by have := XhN.out; omega⟩
end Go.Proofs
