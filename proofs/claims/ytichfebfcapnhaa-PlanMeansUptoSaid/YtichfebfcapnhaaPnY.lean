/- Layer 16 (plan): is a plan Right: the program's. -/
import Derived.Test.YtichfebfcapnhaaProg
import Derived.Test.YtichfebfcapnhaaPnX
namespace Go.Proofs
open Go.RowKit Go.Ink Go.Flt
set_option linter.unusedVariables false
set_option linter.unusedSimpArgs false
attribute [local go_sem] Oper.semAt_some

/-- one step gone over: what is known and taken behind it -/
def rightOne (ls : List LitD) (x : StepD) (s : List ByteArray × List Bool) : Option (List ByteArray × List Bool) :=
  if 0 ≤ x.lit ∧ x.lit < (s.2.length : Int) ∧ s.2.getD x.lit.toNat true = false ∧ readyP s.1 (ls.getD x.lit.toNat default) = true then
    if x.bound = (stepP s.1 (ls.getD x.lit.toNat default) x.lit).bound ∧ x.new = (stepP s.1 (ls.getD x.lit.toNat default) x.lit).new then some (learnP s.1 x.new, s.2.set x.lit.toNat true) else none
  else none
def rightSt (ls : List LitD) (ss : List StepD) : Nat → Option (List ByteArray × List Bool)
  | 0 => some ([], List.replicate ss.length false)
  | k + 1 => (rightSt ls ss k).bind (rightOne ls (ss.getD k default))
def rightB (p : PlanD) : Bool := formedB p.rule && decide (p.steps.length = p.rule.body.length) && (rightSt p.rule.body p.steps p.steps.length).isSome
theorem rightSt_none {ls : List LitD} {ss : List StepD} {k : Nat} (h : rightSt ls ss k = none) : ∀ j, k ≤ j → rightSt ls ss j = none := by
  intro j hj
  induction j with
  | zero => rwa [show k = 0 by omega] at h
  | succ j ih =>
    rcases Nat.lt_or_ge j k with hl | hg
    · rwa [show k = j + 1 by omega] at h
    · show (rightSt ls ss j).bind _ = none
      rw [ih hg]; rfl
theorem rightSt_len {ls : List LitD} {ss : List StepD} (k : Nat) : ∀ s, rightSt ls ss k = some s → s.2.length = ss.length := by
  induction k with
  | zero => intro s h; cases h; simp
  | succ k ih =>
    intro s h
    change (rightSt ls ss k).bind _ = some s at h
    cases hk : rightSt ls ss k with
    | none => rw [hk] at h; cases h
    | some t =>
      rw [hk] at h
      have h2 := ih t hk
      simp only [Option.bind_some] at h
      unfold rightOne at h
      split at h
      · split at h
        · cases h; simp only [List.length_set]; exact h2
        · cases h
      · cases h
def PlanIn (n : Nat) (w : World) (vh vb vs : Value) (p : PlanD) : Prop := RuleIn n w vh vb p.rule ∧ StepsIn n w vs p.steps
theorem PlanIn.keep {n : Nat} {w w' : World} {vh vb vs : Value} {p : PlanD} (h : PlanIn n w vh vb vs p) (hK : Keep (fun k => k < n) w w') : PlanIn n w' vh vb vs p := ⟨h.1.keep hK, h.2.keep hK⟩
theorem PlanIn.wider {n n' : Nat} {w : World} {vh vb vs : Value} {p : PlanD} (h : PlanIn n w vh vb vs p) (hn : n ≤ n') : PlanIn n' w vh vb vs p := ⟨h.1.wider hn, h.2.wider hn⟩

set_option maxRecDepth 100000 in
set_option maxHeartbeats 2000000 in
theorem right_any (n : Nat) (p : PlanD) (vh vb vs : Value) (w : World) (hp : PlanIn n w vh vb vs p) (hn : n ≤ w.heap.size) :
    Calls Try.prog 24 #[planV p vh vb vs] w fun e w' => e = .returned (.bool (rightB p)) ∧ Keep (fun b => b < w.heap.size) w w' := by
  obtain ⟨hr, hs⟩ := hp
  have hform := fun W (hK : Keep (fun b => b < w.heap.size) w W) => formed_any n p.rule vh vb W (hr.keep (hK.mono fun b _ h => by omega)) (by have := hK.size; omega)
  have hE : rightB p = (formedB p.rule && decide (p.steps.length = p.rule.body.length) && (rightSt p.rule.body p.steps p.steps.length).isSome) := rfl
  obtain ⟨⟨⟨pr, args⟩, body⟩, ss⟩ := p
  unfold planV ruleV at *
  simp only at hr hs hform hE ⊢
  have hready := fun (i : Nat) (x : LitD) (hx : body[i]? = some x) M K sa (hsa : TermsIn n w sa x.atom.args) W (hS : SetIn W M K) (hK : Keep (fun b => b < w.heap.size) w W) => ready_any n M K x sa W hS (terms_keep hsa (hK.mono fun b _ h => by omega)) (by have := hK.size; omega)
  have hstep := fun (i : Nat) (x : LitD) (hx : body[i]? = some x) M K W (hS : SetIn W M K) (hK : Keep (fun b => b < w.heap.size) w W) => step_any n M K ⟨⟨pr, args⟩, body⟩ vh vb i x hx W hS (hr.keep (hK.mono fun b _ h => by omega)) (by have := hK.size; omega)
  unfold ruleV at hstep
  simp only at hstep
  obtain ⟨hh, hb⟩ := id hr
  simp only at hh hb
  obtain ⟨aa, ca, rfl, hla, -, -⟩ := id hh
  obtain ⟨ab, cb, rfl, hlb, hcb, heb⟩ := id hb
  obtain ⟨asv, csv, rfl, hls, hcs, hes⟩ := id hs
  obtain ⟨N, hN⟩ : ∃ N, w.heap.size = N := ⟨_, rfl⟩
  obtain ⟨bf, hbf⟩ : ∃ b, formedB ⟨⟨pr, args⟩, body⟩ = b := ⟨_, rfl⟩
  rw [hbf] at hE
  simp only [hbf] at hform
  obtain ⟨W0, hW0⟩ : ∃ W0, w.alloc (.cells #[.string pr, .slice aa args.length ca, .slice ab body.length cb, .slice asv ss.length csv] 34) = W0 := ⟨_, rfl⟩
  have k0 : Keep (fun b => b < w.heap.size) w W0 := by rw [← hW0]; exact Keep.alloc _ _ _
  have z0 : W0.heap.size = w.heap.size + 1 := by rw [← hW0]; simp
  have a1 : W0.heap[w.heap.size]? = some (.cells #[.string pr, .slice aa args.length ca, .slice ab body.length cb, .slice asv ss.length csv] 34 (0, 0)) := by rw [← hW0]; exact new_block _ _
  have hf0 := hform W0 k0
  rw [hN] at a1 z0
  have c3 := cells_of_block a1 3 _ rfl
  have c2 := cells_of_block a1 2 _ rfl
  simp only [Nat.zero_add] at c2 c3
  have hNl : N < W0.heap.size := by omega
  clear hh hb hr hs hform
  have XhE := Lib.hid hE
  have Xheb := Lib.hid heb
  have Xhes := Lib.hid hes
  have Xhready := Lib.hid hready
  have Xhstep := Lib.hid hstep
  have Xhbf := Lib.hid hbf
  have XhN := Lib.hid hN
  have XhW0 := Lib.hid hW0
  have Xk0 := Lib.hid k0
  have Xa1 := Lib.hid a1
  have Xhf0 := Lib.hid hf0
  clear hE heb hes hready hstep hbf hN hW0 k0 a1 hf0
  cases bf
  · go_enter Try.func24, Try.ntmps24
    go_wp2_with fail
    rw [XhW0.out]
    refine Xhf0.out.mono ?_
    rintro e W1 ⟨rfl, k1⟩
    go_wp2_with fail
    go_ret
    exact ⟨by rw [XhE.out]; rfl, Xk0.out.trans (k1.mono fun b _ h => by omega)⟩
  · by_cases hln : ss.length = body.length
    · have hmm := fun w => run_makeSet w
      have hmk := fun u => run_makeBools ss.length hls u
      have hlnb : ((ss.length : Int) != body.length) = false := by simp [hln]
      have Xhln := Lib.hid hln
      clear hln
      go_enter Try.func24, Try.ntmps24
      go_wp2_with fail
      rw [XhW0.out, XhN.out]
      refine Xhf0.out.mono ?_
      rintro e W1 ⟨rfl, k1⟩
      have hz1 := k1.size
      have e2 := k1.cell c2 hNl
      have e3 := k1.cell c3 hNl
      have hNl1 : N < W1.heap.size := by omega
      have kw1 : Keep (fun b => b < N) w W1 := (Xk0.out.trans (k1.mono fun b _ h => by have := XhN.out; omega)).mono fun b _ h => by have := XhN.out; omega
      have a2 := k1.heap Xa1.out hNl
      clear c2 c3
      have Xk1 := Lib.hid k1
      have Xkw1 := Lib.hid kw1
      have Xa2 := Lib.hid a2
      clear k1 kw1 a2
      go_wp2_with fail
      refine wp_abs (fun W => Keep (fun b => b < W1.heap.size) W1 W ∧ W.heap.size = W1.heap.size + 1 + 1 ∧ SetIn W W1.heap.size [] ∧ W.heap[W1.heap.size + 1]? = some (.cells ((List.replicate ss.length false).map Value.bool).toArray 4 (0, 0)))
        ⟨(Keep.alloc _ _ _).trans (Keep.alloc _ _ _), by simp, (setIn_new W1).keep (Keep.alloc (fun _ => True) _ _) trivial, by rw [made_eq]; simp only [alloc_get, World.size_alloc]; simp⟩ ?_
      rintro W2 ⟨k2, z2, s2, t2⟩
      have a3 := k2.heap Xa2.out hNl1
      have kw2 : Keep (fun b => b < N) w W2 := Xkw1.out.trans (k2.mono fun b _ h => by omega)
      obtain ⟨M, hM⟩ : ∃ M, W1.heap.size = M := ⟨_, rfl⟩
      rw [hM] at z2 s2 t2 ⊢
      have hNM : N < M := by omega
      have hst0 : rightSt body ss 0 = some ([], List.replicate ss.length false) := rfl
      clear hmm hmk e2 e3 k2 hM
      have Xs2 := Lib.hid s2
      have Xt2 := Lib.hid t2
      have Xa3 := Lib.hid a3
      have Xkw2 := Lib.hid kw2
      have Xhst0 := Lib.hid hst0
      clear s2 t2 a3 kw2 hst0
      go_loopw [31] (fun i' wr => ∃ (k : Nat) (K : List ByteArray) (tk : List Bool), k ≤ ss.length ∧ i' = .int .i64 (k : Int) ∧ Keep (fun b => b < M) W2 wr ∧ rightSt body ss k = some (K, tk) ∧ SetIn wr M K ∧ wr.heap[M + 1]? = some (.cells (tk.map Value.bool).toArray 4 (0, 0)) ∧ M + 1 + 1 ≤ wr.heap.size) (fun i _ => ss.length - (intOf i).toNat)
      case atStart => exact ⟨0, _, _, by omega, rfl, Keep.refl _ _, Xhst0.out, Xs2.out, Xt2.out, by omega⟩
      case round =>
        obtain ⟨k, K, tk, hk, rfl, hK, hst, hS, hT, hsz⟩ := hrel
        have htl := rightSt_len k _ hst
        simp only at htl
        have a4 := hK.heap Xa3.out hNM
        have c0 := cells_of_block a4 0 _ rfl
        have c1 := cells_of_block a4 1 _ rfl
        have c2 := cells_of_block a4 2 _ rfl
        simp only [Nat.zero_add] at c0 c1 c2
        have hNw : N < wr.heap.size := by omega
        have kw : Keep (fun b => b < N) w wr := Xkw2.out.trans (hK.mono fun b _ h => by omega)
        have kww : Keep (fun b => b < w.heap.size) w wr := kw.mono fun b _ h => by have := XhN.out; omega
        by_cases hlt : k < ss.length
        · have hlt1 : (k : Int) < ss.length := by omega
          have hk0 : (0 : Int) ≤ k := by omega
          obtain ⟨x, hx⟩ : ∃ x, ss[k]? = some x := ⟨_, List.getElem?_eq_getElem hlt⟩
          obtain ⟨b8, o8, rfl, hb8, bv, nv, hcl, hbv, hnv⟩ := Xhes.out k x hx
          obtain ⟨abv, cbv, rfl, hlbv, -, -⟩ := id hbv
          obtain ⟨anv, cnv, rfl, hlnv, -, -⟩ := id hnv
          have d0 := kw.cell (hcl 0 _ rfl) (show b8 < N by have := XhN.out; omega)
          have d1 := kw.cell (hcl 1 _ rfl) (show b8 < N by have := XhN.out; omega)
          have d2 := kw.cell (hcl 2 _ rfl) (show b8 < N by have := XhN.out; omega)
          simp only [Nat.add_zero] at d0
          have hb8w : b8 < wr.heap.size := by have := XhN.out; omega
          have hgs : ss.getD k default = x := by rw [List.getD_eq_getElem?_getD, hx]; rfl
          have hnext : rightSt body ss (k + 1) = rightOne body x (K, tk) := by
            show (rightSt body ss k).bind (rightOne body (ss.getD k default)) = _
            rw [hst, hgs]; rfl
          have hbadE : rightOne body x (K, tk) = none → rightB ⟨⟨⟨pr, args⟩, body⟩, ss⟩ = false := fun h => by
            rw [XhE.out, rightSt_none (hnext.trans h) ss.length (by omega)]
            simp
          obtain ⟨n, bd, nw⟩ := x
          simp only at d0 d1 d2 hlbv hlnv hbv hnv
          clear hcl hx hgs a4
          by_cases h1 : n < 0
          · have hno : rightOne body ⟨n, bd, nw⟩ (K, tk) = none := by unfold rightOne; rw [if_neg (fun h => by have := h.1; simp only at this; omega)]
            have hF := hbadE hno
            have XhK := Lib.hid hK
            have Xhst := Lib.hid hst
            have XhS := Lib.hid hS
            have XhT := Lib.hid hT
            have Xkw := Lib.hid kw
            have Xkww := Lib.hid kww
            have Xhnext := Lib.hid hnext
            have XhbadE := Lib.hid hbadE
            have Xhno := Lib.hid hno
            have XhF := Lib.hid hF
            have Xhtl := Lib.hid htl
            have Xhbv := Lib.hid hbv
            have Xhnv := Lib.hid hnv
            clear hK hst hS hT kw kww hnext hbadE hno hF htl hbv hnv
            go_wp2_with fail
            go_ret
            exact ⟨by rw [XhF.out]; rfl, Xkww.out.trans (Keep.alloc _ _ _)⟩
          · by_cases h2 : (ss.length : Int) ≤ n
            · have hno : rightOne body ⟨n, bd, nw⟩ (K, tk) = none := by unfold rightOne; rw [if_neg (fun h => by have := h.2.1; simp only at this; omega)]
              have hF := hbadE hno
              have XhK := Lib.hid hK
              have Xhst := Lib.hid hst
              have XhS := Lib.hid hS
              have XhT := Lib.hid hT
              have Xkw := Lib.hid kw
              have Xkww := Lib.hid kww
              have Xhnext := Lib.hid hnext
              have XhbadE := Lib.hid hbadE
              have Xhno := Lib.hid hno
              have XhF := Lib.hid hF
              have Xhtl := Lib.hid htl
              have Xhbv := Lib.hid hbv
              have Xhnv := Lib.hid hnv
              clear hK hst hS hT kw kww hnext hbadE hno hF htl hbv hnv
              go_wp2_with fail
              go_ret
              exact ⟨by rw [XhF.out]; rfl, Xkww.out.trans (Keep.alloc _ _ _)⟩
            · obtain ⟨i, rfl⟩ : ∃ i : Nat, n = i := ⟨n.toNat, by omega⟩
              have hi0 : (0 : Int) ≤ i := by omega
              have hi1 : (i : Int) < ss.length := by omega
              have hi2 : (i : Int) < body.length := by have := Xhln.out; omega
              obtain ⟨tb, htb⟩ : ∃ t, tk.getD i true = t := ⟨_, rfl⟩
              have hlt' : i < tk.length := by omega
              have htc : wr.cell? ⟨M + 1, i, none⟩ = some (.bool tb) := by
                have := cells_of_block hT i (.bool tb) (by rw [List.getElem?_map, List.getElem?_eq_getElem hlt', ← htb, List.getD_eq_getElem?_getD, List.getElem?_eq_getElem hlt']; rfl)
                rwa [Nat.zero_add] at this
              have hTl := heap_lt hT
              cases tb
              · obtain ⟨L, hL⟩ : ∃ L, body[i]? = some L := ⟨_, List.getElem?_eq_getElem (by omega)⟩
                obtain ⟨b4, o4, rfl, hb4, sa, hcl4, hsa⟩ := Xheb.out i L hL
                have hgd : body.getD i default = L := by rw [List.getD_eq_getElem?_getD, hL]; rfl
                obtain ⟨D, hD⟩ : ∃ D, wr.heap.size = D := ⟨_, rfl⟩
                obtain ⟨W5, hW5⟩ : ∃ W5, wr.alloc (.cells #[.int .i64 (i : Int), .slice abv bd.length cbv, .slice anv nw.length cnv] 73) = W5 := ⟨_, rfl⟩
                have k5 : Keep (fun _ => True) wr W5 := by rw [← hW5]; exact Keep.alloc _ _ _
                have z5 : W5.heap.size = wr.heap.size + 1 := by rw [← hW5]; simp
                have bD := new_block wr (.cells #[.int .i64 (i : Int), .slice abv bd.length cbv, .slice anv nw.length cnv] 73)
                rw [hW5, hD] at bD
                have hrd := Xhready.out i L hL M K sa hsa W5 (hS.keep k5 trivial) (kww.trans (k5.mono fun _ _ _ => trivial))
                have hstp := Xhstep.out i L hL M K
                obtain ⟨asa, csa, rfl, hlx, -, -⟩ := id hsa
                have g : ∀ j v, (litCells L (.slice asa L.atom.args.length csa))[j]? = some v → wr.cell? ⟨b4, o4 + i * 7 + j, none⟩ = some v := fun j v h => kw.cell (hcl4 j v h) (show b4 < N by have := XhN.out; omega)
                have m0 := g 0 _ rfl
                have m1 := g 1 _ rfl
                have m2 := g 2 _ rfl
                have m3 := g 3 _ rfl
                have m4 := g 4 _ rfl
                have m5 := g 5 _ rfl
                have m6 := g 6 _ rfl
                simp only [Nat.add_zero] at m0
                have hb4w : b4 < wr.heap.size := by have := XhN.out; omega
                obtain ⟨rb, hrb⟩ : ∃ b, readyP K L = b := ⟨_, rfl⟩
                rw [hrb] at hrd
                unfold litV at hrd
                have hone : rightOne body ⟨(i : Int), bd, nw⟩ (K, tk) = if rb = true then (if bd = (stepP K L i).bound ∧ nw = (stepP K L i).new then some (learnP K nw, tk.set i true) else none) else none := by
                  unfold rightOne
                  simp only [Int.toNat_natCast]
                  rw [htb, hgd, hrb]
                  by_cases h : rb = true
                  · rw [if_pos ⟨hi0, by omega, rfl, h⟩, if_pos h]
                  · rw [if_neg (fun x => h x.2.2.2), if_neg h]
                clear g hcl4 hsa hL
                cases rb
                · rw [if_neg (by simp)] at hone
                  have hF := hbadE hone
                  clear c0 c1
                  have XhK := Lib.hid hK
                  have Xhst := Lib.hid hst
                  have XhS := Lib.hid hS
                  have XhT := Lib.hid hT
                  have Xkw := Lib.hid kw
                  have Xkww := Lib.hid kww
                  have Xhnext := Lib.hid hnext
                  have XhbadE := Lib.hid hbadE
                  have Xhone := Lib.hid hone
                  have XhF := Lib.hid hF
                  have Xhtl := Lib.hid htl
                  have Xhbv := Lib.hid hbv
                  have Xhnv := Lib.hid hnv
                  have Xhtb := Lib.hid htb
                  have XhW5 := Lib.hid hW5
                  have Xk5 := Lib.hid k5
                  have XbD := Lib.hid bD
                  have Xhrd := Lib.hid hrd
                  have Xhstp := Lib.hid hstp
                  have Xhrb := Lib.hid hrb
                  have Xhgd := Lib.hid hgd
                  have XhD := Lib.hid hD
                  clear hK hst hS hT kw kww hnext hbadE hone hF htl hbv hnv htb hW5 k5 bD hrd hstp hrb hgd hD
                  go_wp2_with fail
                  rw [XhW5.out]
                  refine Xhrd.out.mono ?_
                  rintro e W6 ⟨rfl, k6⟩
                  go_wp2_with fail
                  go_ret
                  exact ⟨by rw [XhF.out]; rfl, (Xkww.out.trans (Xk5.out.mono fun _ _ _ => trivial)).trans (k6.mono fun b _ h => by have := XhN.out; omega)⟩
                · rw [if_pos rfl] at hone
                  obtain ⟨hsl1, hsl2, -⟩ := step_len K L i
                  obtain ⟨yb, hyb⟩ : ∃ yb, (stepP K L i).bound = yb := ⟨_, rfl⟩
                  obtain ⟨yn, hyn⟩ : ∃ yn, (stepP K L i).new = yn := ⟨_, rfl⟩
                  rw [hyb] at hsl1
                  rw [hyn] at hsl2
                  simp only [hyb, hyn] at hstp hone
                  clear hyb hyn
                  have XhK := Lib.hid hK
                  have Xhst := Lib.hid hst
                  have XhS := Lib.hid hS
                  have XhT := Lib.hid hT
                  have Xkw := Lib.hid kw
                  have Xkww := Lib.hid kww
                  have Xhnext := Lib.hid hnext
                  have XhbadE := Lib.hid hbadE
                  have Xhone := Lib.hid hone
                  have Xhtl := Lib.hid htl
                  have Xhbv := Lib.hid hbv
                  have Xhnv := Lib.hid hnv
                  have Xhtb := Lib.hid htb
                  have XhW5 := Lib.hid hW5
                  have Xk5 := Lib.hid k5
                  have XbD := Lib.hid bD
                  have Xhrd := Lib.hid hrd
                  have Xhstp := Lib.hid hstp
                  have Xhrb := Lib.hid hrb
                  have Xhgd := Lib.hid hgd
                  have XhD := Lib.hid hD
                  clear hK hst hS hT kw kww hnext hbadE hone htl hbv hnv htb hW5 k5 bD hrd hstp hrb hgd hD
                  go_wp2_with fail
                  rw [XhW5.out, XhD.out]
                  refine Xhrd.out.mono ?_
                  rintro e W6 ⟨rfl, k6⟩
                  have hz6 := k6.size
                  have k56 : Keep (fun b => b < wr.heap.size) wr W6 := (Xk5.out.mono fun _ _ _ => trivial).trans (k6.mono fun b _ h => by omega)
                  have e0 := k56.cell c0 hNw
                  have e1 := k56.cell c1 hNw
                  have e2 := k56.cell c2 hNw
                  have bD6 := k6.heap XbD.out (by have := XhD.out; omega)
                  have hNl6 : N < W6.heap.size := by omega
                  have kww6 : Keep (fun b => b < w.heap.size) w W6 := Xkww.out.trans (k56.mono fun b _ h => by have := XhN.out; omega)
                  have hS6 := XhS.out.keep k56 (by have := XhS.out.lt; exact this)
                  have hstp6 := Xhstp.out W6 hS6 kww6
                  clear c0 c1 c2 m0 m1 m2 m3 m4 m5 m6 k6
                  have Xk56 := Lib.hid k56
                  have XbD6 := Lib.hid bD6
                  have Xkww6 := Lib.hid kww6
                  have XhS6 := Lib.hid hS6
                  have Xhstp6 := Lib.hid hstp6
                  clear k56 bD6 kww6 hS6 hstp6
                  go_wp2_with fail
                  refine Xhstp6.out.mono ?_
                  rintro e W7 ⟨vyb, vyn, rfl, ob, on, k7⟩
                  have hz7 := k7.size
                  obtain ⟨ayb, cyb, rfl⟩ := own_form ob
                  obtain ⟨ayn, cyn, rfl⟩ := own_form on
                  obtain ⟨E, hE7⟩ : ∃ E, W7.heap.size = E := ⟨_, rfl⟩
                  obtain ⟨W8, hW8⟩ : ∃ W8, W7.alloc (.cells #[.int .i64 (i : Int), .slice ayb yb.length cyb, .slice ayn yn.length cyn] 73) = W8 := ⟨_, rfl⟩
                  have k8 : Keep (fun _ => True) W7 W8 := by rw [← hW8]; exact Keep.alloc _ _ _
                  have z8 : W8.heap.size = W7.heap.size + 1 := by rw [← hW8]; simp
                  have bE := new_block W7 (.cells #[.int .i64 (i : Int), .slice ayb yb.length cyb, .slice ayn yn.length cyn] 73)
                  rw [hW8, hE7] at bE
                  have k68 : Keep (fun b => b < W6.heap.size) W6 W8 := k7.trans (k8.mono fun _ _ _ => trivial)
                  have bD7 := k7.heap XbD6.out (heap_lt XbD6.out)
                  have w1' := cells_of_block bD7 1 _ rfl
                  have w2' := cells_of_block bD7 2 _ rfl
                  simp only [Nat.zero_add] at w1' w2'
                  have hDl7 := heap_lt bD7
                  clear bD7
                  have bD8 := k68.heap XbD6.out (heap_lt XbD6.out)
                  have k08 : Keep (fun b => b < wr.heap.size) wr W8 := Xk56.out.trans (k68.mono fun b _ h => by omega)
                  have hS8 := XhS6.out.keep k68 (by have := XhS6.out.lt; exact this)
                  have hT8 := k08.heap XhT.out (heap_lt XhT.out)
                  have kww8 : Keep (fun b => b < w.heap.size) w W8 := Xkww6.out.trans (k68.mono fun b _ h => by have := XhN.out; omega)
                  have ob8 := own_kept ob k8 (fun _ _ => trivial)
                  have on8 := own_kept on k8 (fun _ _ => trivial)
                  have hn8 : n ≤ W8.heap.size := by have := XhN.out; omega
                  have hbv8 : IntsIn W8.heap.size W8 (.slice abv bd.length cbv) bd := SliceIn.wider (ints_kept Xhbv.out (kww8.mono fun b _ h => by omega)) hn8 fun _ _ _ _ h => h
                  have hnv8 : StrsIn W8.heap.size W8 (.slice anv nw.length cnv) nw := strs_wider (strs_kept Xhnv.out (kww8.mono fun b _ h => by omega)) hn8
                  have heq1 := eqInts_any W8.heap.size _ _ bd yb W8 hbv8 (own_ints ob8 (by omega)) (Nat.le_refl _)
                  have heq2 := fun W (hK : Keep (fun _ => True) W8 W) => eqTexts_any W8.heap.size _ _ nw yn W (strs_kept hnv8 (hK.mono fun _ _ _ => trivial)) (strs_kept (own_strs on8 (by omega)) (hK.mono fun _ _ _ => trivial)) hK.size
                  have q1 := cells_of_block bD8 1 _ rfl
                  have q2 := cells_of_block bD8 2 _ rfl
                  have q0 := cells_of_block bD8 0 _ rfl
                  have p1 := cells_of_block bE 1 _ rfl
                  have p2 := cells_of_block bE 2 _ rfl
                  simp only [Nat.zero_add] at q0 q1 q2 p1 p2
                  have hDl8 := heap_lt bD8
                  have hEl8 := heap_lt bE
                  clear k7 k8 ob on e0 e1 e2
                  obtain ⟨c1b, hc1b⟩ : ∃ b, decide (bd = yb) = b := ⟨_, rfl⟩
                  obtain ⟨c2b, hc2b⟩ : ∃ b, decide (nw = yn) = b := ⟨_, rfl⟩
                  rw [hc1b] at heq1
                  simp only [hc2b] at heq2
                  have XhW8 := Lib.hid hW8
                  have XhE7 := Lib.hid hE7
                  have Xk68 := Lib.hid k68
                  have XbD8 := Lib.hid bD8
                  have Xk08 := Lib.hid k08
                  have XhS8 := Lib.hid hS8
                  have XhT8 := Lib.hid hT8
                  have Xkww8 := Lib.hid kww8
                  have Xob8 := Lib.hid ob8
                  have Xon8 := Lib.hid on8
                  have Xhbv8 := Lib.hid hbv8
                  have Xhnv8 := Lib.hid hnv8
                  have Xheq1 := Lib.hid heq1
                  have Xheq2 := Lib.hid heq2
                  have XbE := Lib.hid bE
                  have Xhc1b := Lib.hid hc1b
                  have Xhc2b := Lib.hid hc2b
                  clear hW8 hE7 k68 bD8 k08 hS8 hT8 kww8 ob8 on8 hbv8 hnv8 heq1 heq2 bE hc1b hc2b
                  cases c1b
                  · have hF := XhbadE.out (by rw [Xhone.out, if_neg (fun h => of_decide_eq_false Xhc1b.out h.1)])
                    have XhF := Lib.hid hF
                    clear hF
                    go_wp2_with fail
                    rw [XhW8.out, XhE7.out]
                    refine Xheq1.out.mono ?_
                    rintro e W9 ⟨rfl, k9⟩
                    go_wp2_with fail
                    go_ret
                    exact ⟨by rw [XhF.out]; rfl, Xkww8.out.trans (k9.mono fun _ _ _ => trivial)⟩
                  · go_wp2_with fail
                    rw [XhW8.out, XhE7.out]
                    refine Xheq1.out.mono ?_
                    rintro e W9 ⟨rfl, k9⟩
                    have hz9 := k9.size
                    have q2' := k9.cell q2 trivial
                    have p2' := k9.cell p2 trivial
                    have q1' := k9.cell q1 trivial
                    have q0' := k9.cell q0 trivial
                    have hDl9 : D < W9.heap.size := by omega
                    have hEl9 : E < W9.heap.size := by omega
                    have heq29 := Xheq2.out W9 k9
                    clear q0 q1 q2 p1 p2 w1' w2'
                    have Xk9 := Lib.hid k9
                    have Xheq29 := Lib.hid heq29
                    clear k9 heq29
                    cases c2b
                    · have hF := XhbadE.out (by rw [Xhone.out, if_neg (fun h => of_decide_eq_false Xhc2b.out h.2)])
                      have XhF := Lib.hid hF
                      clear hF
                      go_wp2_with fail
                      refine Xheq29.out.mono ?_
                      rintro e W10 ⟨rfl, k10⟩
                      go_wp2_with fail
                      go_ret
                      exact ⟨by rw [XhF.out]; rfl, (Xkww8.out.trans (Xk9.out.mono fun _ _ _ => trivial)).trans (k10.mono fun _ _ _ => trivial)⟩
                    · go_wp2_with fail
                      refine Xheq29.out.mono ?_
                      rintro e W10 ⟨rfl, k10⟩
                      have hz10 := k10.size
                      have k810 : Keep (fun _ => True) W8 W10 := Xk9.out.trans k10
                      have hT10 := k810.heap XhT8.out trivial
                      have hS10 := XhS8.out.keep k810 trivial
                      have q0'' := k10.cell q0' trivial
                      have q1'' := k10.cell q1' trivial
                      have q2'' := k10.cell q2' trivial
                      have htl' := Xhtl.out
                      have htx : i < (tk.map Value.bool).length := by rw [List.length_map]; omega
                      have htc10 := cells_of_block hT10 i _ (List.getElem?_eq_getElem htx)
                      have htf10 := box_free hT10 i
                      rw [Nat.zero_add] at htc10
                      have hTl10 := heap_lt hT10
                      obtain ⟨W11, hW11⟩ : ∃ W11, W10.setCell ⟨M + 1, i, none⟩ (.bool true) = W11 := ⟨_, rfl⟩
                      have k11 : Keep (fun b => b ≠ M + 1) W10 W11 := by rw [← hW11]; exact Keep.setCell _ _ _ (by simp)
                      have hT11 := set_at i (.bool true) hT10
                      rw [hW11, show (tk.map Value.bool).toArray.setIfInBounds i (.bool true) = ((tk.set i true).map Value.bool).toArray from by rw [List.setIfInBounds_toArray, List.map_set]] at hT11
                      have hS11 := hS10.keep k11 (by omega)
                      have r0 := k11.cell q0'' (show D ≠ M + 1 by have := XhD.out; omega)
                      have r1 := k11.cell q1'' (show D ≠ M + 1 by have := XhD.out; omega)
                      have r2 := k11.cell q2'' (show D ≠ M + 1 by have := XhD.out; omega)
                      have hz11 := k11.size
                      have hDl11 : D < W11.heap.size := by omega
                      have hnv11 : StrsIn n W11 (.slice anv nw.length cnv) nw := strs_kept Xhnv.out ((Xkww8.out.trans (k810.mono fun _ _ _ => trivial)).trans (k11.mono fun b _ h => by have := XhN.out; omega) |>.mono fun b _ h => by omega)
                      have hlrn := learn_any n M K ⟨(i : Int), bd, nw⟩ (.slice abv bd.length cbv) (.slice anv nw.length cnv) W11 hS11 hnv11 (by omega)
                      unfold stepV at hlrn
                      simp only at hlrn
                      have hK11 : Keep (fun b => b < M) W2 W11 := (XhK.out.trans (Xk08.out.mono fun b _ h => by omega)).trans ((k810.mono fun _ _ _ => trivial).trans (k11.mono fun b _ h => by omega))
                      have hst2 : rightSt body ss (k + 1) = some (learnP K nw, tk.set i true) := by
                        rw [Xhnext.out, Xhone.out, if_pos ⟨of_decide_eq_true Xhc1b.out, of_decide_eq_true Xhc2b.out⟩]
                      have hDM : ¬ D = M + 1 := by have := XhD.out; omega
                      clear k10 k810 hT10 hS10 q0' q1' q2' p2' k11 hS11 hnv11 htl'
                      have XhW11 := Lib.hid hW11
                      have XhT11 := Lib.hid hT11
                      have Xhlrn := Lib.hid hlrn
                      have XhK11 := Lib.hid hK11
                      have Xhst2 := Lib.hid hst2
                      clear hW11 hT11 hlrn hK11 hst2
                      go_wp2_with fail
                      rw [XhW11.out]
                      go_wp2_with fail
                      refine Xhlrn.out.mono ?_
                      rintro e W12 ⟨rfl, hS12, k12⟩
                      have hT12 := k12.heap XhT11.out (by omega)
                      have hK12 : Keep (fun b => b < M) W2 W12 := XhK11.out.trans (k12.mono fun b _ h => by omega)
                      have hz12 := k12.size
                      clear k12 r0 r1 r2
                      have XhT12 := Lib.hid hT12
                      have XhK12 := Lib.hid hK12
                      have XhS12 := Lib.hid hS12
                      clear hT12 hK12 hS12
                      go_wp2_with fail
                      go_roundw
                      case rel => exact ⟨k + 1, _, _, by omega, by go_num, XhK12.out, Xhst2.out, XhS12.out, XhT12.out, by omega⟩
                      case measure => simp [intOf]; omega
              · have hno : rightOne body ⟨(i : Int), bd, nw⟩ (K, tk) = none := by unfold rightOne; rw [if_neg (fun h => by have := h.2.2.1; simp only [Int.toNat_natCast] at this; rw [htb] at this; cases this)]
                have hF := hbadE hno
                have XhK := Lib.hid hK
                have Xhst := Lib.hid hst
                have XhS := Lib.hid hS
                have XhT := Lib.hid hT
                have Xkw := Lib.hid kw
                have Xkww := Lib.hid kww
                have Xhnext := Lib.hid hnext
                have XhbadE := Lib.hid hbadE
                have Xhno := Lib.hid hno
                have XhF := Lib.hid hF
                have Xhtl := Lib.hid htl
                have Xhbv := Lib.hid hbv
                have Xhnv := Lib.hid hnv
                have Xhtb := Lib.hid htb
                clear hK hst hS hT kw kww hnext hbadE hno hF htl hbv hnv htb
                go_wp2_with fail
                go_ret
                exact ⟨by rw [XhF.out]; rfl, Xkww.out.trans (Keep.alloc _ _ _)⟩
        · obtain rfl : k = ss.length := by omega
          have hE2 : rightB ⟨⟨⟨pr, args⟩, body⟩, ss⟩ = true := by rw [XhE.out, hst, Xhln.out]; simp
          clear hst a4
          have XhK := Lib.hid hK
          have XhS := Lib.hid hS
          have XhT := Lib.hid hT
          have Xkw := Lib.hid kw
          have Xkww := Lib.hid kww
          have XhE2 := Lib.hid hE2
          have Xhtl := Lib.hid htl
          clear hK hS hT kw kww hE2 htl
          go_wp2_with fail
          go_ret
          exact ⟨by rw [XhE2.out]; rfl, Xkww.out⟩
    · have hlnb : ((ss.length : Int) != body.length) = true := by simp; omega
      rw [decide_eq_false hln, Bool.and_false, Bool.false_and] at XhE
      clear hln
      go_enter Try.func24, Try.ntmps24
      go_wp2_with fail
      rw [XhW0.out, XhN.out]
      refine Xhf0.out.mono ?_
      rintro e W1 ⟨rfl, k1⟩
      have e2 := k1.cell c2 hNl
      have e3 := k1.cell c3 hNl
      have hz1 := k1.size
      have hNl1 : N < W1.heap.size := by omega
      clear c2 c3
      have Xk1 := Lib.hid k1
      clear k1
      go_wp2_with fail
      go_ret
      exact ⟨by rw [XhE.out]; rfl, Xk0.out.trans (Xk1.out.mono fun b _ h => by omega)⟩
end Go.Proofs
