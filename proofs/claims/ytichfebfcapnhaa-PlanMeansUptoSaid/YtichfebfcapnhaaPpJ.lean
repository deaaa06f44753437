/- Layer 16 (plan): is a plan Right: the document's. -/
import Derived.Test.YtichfebfcapnhaaProg
import Derived.Test.YtichfebfcapnhaaPpI
import Derived.Test.YtichfebfcapnhaaPpGToPpH
import Derived.Test.YtichfebfcapnhaaPoCToPoD
import Derived.Test.YtichfebfcapnhaaOwnToRowC
namespace Go.Proofs
open Go.RowKit Go.Ink Go.Flt
set_option linter.unusedVariables false
set_option linter.unusedSimpArgs false
attribute [local go_sem] Oper.semAt_some

set_option maxRecDepth 100000 in
set_option maxHeartbeats 2000000 in
theorem refRight_any (n : Nat) (p : PlanD) (hsm : smallR p.rule) (vh vb vs : Value) (w : World) (hp : PlanIn n w vh vb vs p) (hn : n ≤ w.heap.size) :
    Calls Try.prog 25 #[planV p vh vb vs] w fun e w' => e = .returned (.bool (rightB p)) ∧ Keep (fun b => b < w.heap.size) w w' := by
  have hE := right_same p
  have hsized := sized_of hp.1
  have horder := fun W (hK : Keep (fun b => b < w.heap.size) w W) => refOrder_any n p vh vb vs W (hp.keep (hK.mono fun b _ h => by omega)) (by have := hK.size; omega)
  have hformed := fun W (hK : Keep (fun b => b < w.heap.size) w W) => refFormed_any n p.rule hsm vh vb W (hp.1.keep (hK.mono fun b _ h => by omega)) (by have := hK.size; omega)
  have hplanned := fun hF vo ord W (hK : Keep (fun b => b < w.heap.size) w W) (ho : IntsIn W.heap.size W vo ord) => planned_any W.heap.size p.rule hF vh vb ord vo W ((hp.1.keep (hK.mono fun b _ h => by omega)).wider (by have := hK.size; omega)) ho (Nat.le_refl _)
  obtain ⟨hr, hs⟩ := hp
  obtain ⟨⟨⟨pr, args⟩, body⟩, ss⟩ := p
  unfold planV at *
  unfold ruleV at *
  simp only at hr hs hE horder hformed hplanned hsized ⊢
  obtain ⟨hh, hb⟩ := id hr
  simp only at hh hb
  obtain ⟨aa, ca, rfl, hla, -, -⟩ := id hh
  obtain ⟨ab, cb, rfl, hlb, hcb, heb⟩ := id hb
  obtain ⟨asv, csv, rfl, hls, hcs, hes⟩ := id hs
  obtain ⟨N, hN⟩ : ∃ N, w.heap.size = N := ⟨_, rfl⟩
  obtain ⟨W0, hW0⟩ : ∃ W0, w.alloc (.cells #[.string pr, .slice aa args.length ca, .slice ab body.length cb, .slice asv ss.length csv] 34) = W0 := ⟨_, rfl⟩
  have k0 : Keep (fun b => b < w.heap.size) w W0 := by rw [← hW0]; exact Keep.alloc _ _ _
  have z0 : W0.heap.size = w.heap.size + 1 := by rw [← hW0]; simp
  have a1 : W0.heap[w.heap.size]? = some (.cells #[.string pr, .slice aa args.length ca, .slice ab body.length cb, .slice asv ss.length csv] 34 (0, 0)) := by rw [← hW0]; exact new_block _ _
  have hf0 := hformed W0 k0
  rw [hN] at a1 z0
  have c0 := cells_of_block a1 0 _ rfl
  have c1 := cells_of_block a1 1 _ rfl
  have c2 := cells_of_block a1 2 _ rfl
  simp only [Nat.zero_add] at c0 c1 c2
  have hNl : N < W0.heap.size := by omega
  obtain ⟨bf, hbf⟩ : ∃ b, formedB ⟨⟨pr, args⟩, body⟩ = b := ⟨_, rfl⟩
  rw [hbf] at hE hf0
  clear hh hb hformed heb
  have XhE := Lib.hid hE
  have Xhes := Lib.hid hes
  have Xhorder := Lib.hid horder
  have Xhplanned := Lib.hid hplanned
  have Xhbf := Lib.hid hbf
  have XhN := Lib.hid hN
  have XhW0 := Lib.hid hW0
  have Xk0 := Lib.hid k0
  have Xa1 := Lib.hid a1
  have Xhf0 := Lib.hid hf0
  have Xhsized := Lib.hid hsized
  have Xhr := Lib.hid hr
  have Xhs := Lib.hid hs
  clear hE hes horder hplanned hbf hN hW0 k0 a1 hf0 hsized hr hs
  cases bf
  · go_enter Try.func25, Try.ntmps25
    go_wp2_with fail
    rw [XhW0.out]
    refine Xhf0.out.mono ?_
    rintro e W1 ⟨rfl, k1⟩
    go_wp2_with fail
    go_ret
    exact ⟨by rw [XhE.out]; rfl, Xk0.out.trans (k1.mono fun b _ h => by have := XhN.out; omega)⟩
  · go_enter Try.func25, Try.ntmps25
    go_upto_region 2 with fail
    rw [XhW0.out]
    refine Xhf0.out.mono ?_
    rintro e W1 ⟨rfl, k1⟩
    have hz1 := k1.size
    have b1 := k1.heap Xa1.out hNl
    have kw1 : Keep (fun b => b < w.heap.size) w W1 := Xk0.out.trans (k1.mono fun b _ h => by have := XhN.out; omega)
    have e0 := cells_of_block b1 0 _ rfl
    have e1 := cells_of_block b1 1 _ rfl
    have e2 := cells_of_block b1 2 _ rfl
    have e3 := cells_of_block b1 3 _ rfl
    simp only [Nat.zero_add] at e0 e1 e2 e3
    have hNl1 : N < W1.heap.size := by omega
    obtain ⟨pl, hpl⟩ : ∃ pl, plannedP body (ss.map StepD.lit) = pl := ⟨_, rfl⟩
    obtain ⟨ok, hok⟩ : ∃ ok, pl.isSome = ok := ⟨_, rfl⟩
    have hF : formedB ⟨⟨pr, args⟩, body⟩ = true := Xhbf.out
    have hord := fun W (hK : Keep (fun b => b < W1.heap.size) W1 W) => Xhorder.out W (kw1.trans (hK.mono fun b _ h => by omega))
    have hplan := fun W avo cvo (hK : Keep (fun b => b < W1.heap.size) W1 W) (ho : W.ownsRow W1.heap.size 3 1 (.slice avo ss.length cvo) ss.length ((ss.map StepD.lit).map (.int .i64))) => Xhplanned.out hF (.slice avo ss.length cvo) (ss.map StepD.lit) W (kw1.trans (hK.mono fun b _ h => by omega)) (own_ints ho (by rw [List.length_map]; exact hls))
    simp only [hpl, hok] at hplan
    have hS0 : (fun W : World => W.cell? ⟨N, 0, none⟩ = some (.string pr) ∧ W.cell? ⟨N, 1, none⟩ = some (.slice aa args.length ca) ∧ W.cell? ⟨N, 2, none⟩ = some (.slice ab body.length cb) ∧ W.cell? ⟨N, 3, none⟩ = some (.slice asv ss.length csv)) W1.drew := ⟨e0, e1, e2, e3⟩
    have hSk := fun W (hK : Keep (fun b => b < W1.heap.size) W1 W) => (show (fun W : World => W.cell? ⟨N, 0, none⟩ = some (.string pr) ∧ W.cell? ⟨N, 1, none⟩ = some (.slice aa args.length ca) ∧ W.cell? ⟨N, 2, none⟩ = some (.slice ab body.length cb) ∧ W.cell? ⟨N, 3, none⟩ = some (.slice asv ss.length csv)) W from ⟨hK.cell e0 hNl1, hK.cell e1 hNl1, hK.cell e2 hNl1, hK.cell e3 hNl1⟩)
    have hkd : Keep (fun b => b < W1.heap.size) W1 W1.drew := Keep.drew _ _
    clear c0 c1 c2 k1
    have Xb1 := Lib.hid b1
    have Xkw1 := Lib.hid kw1
    have Xhord := Lib.hid hord
    have Xhplan := Lib.hid hplan
    have XhS0 := Lib.hid hS0
    have XhSk := Lib.hid hSk
    have Xhkd := Lib.hid hkd
    have XhF := Lib.hid hF
    have Xhok := Lib.hid hok
    have Xhpl := Lib.hid hpl
    clear b1 kw1 hord hplan hS0 hSk hkd hF hok hpl
    go_wp2_with fail
    rw [XhN.out]
    refine region_hoist rfl (fun W => W.cell? ⟨N, 0, none⟩ = some (.string pr) ∧ W.cell? ⟨N, 1, none⟩ = some (.slice aa args.length ca) ∧ W.cell? ⟨N, 2, none⟩ = some (.slice ab body.length cb) ∧ W.cell? ⟨N, 3, none⟩ = some (.slice asv ss.length csv)) [10] ?_
    refine hoist_take (i := 0) (v := ?_) rfl (by kernel_rfl) (by kernel_rfl) (by kernel_rfl) (by kernel_rfl) (fun _ _ _ h => h) XhS0.out (Or.inl ⟨by rfl, ?_⟩) ?_
    rotate_left
    · intro Wq hWq
      obtain ⟨x0, x1, x2, x3⟩ := hWq
      go_simp
      try with_reducible rfl
    try simp only [Act.put, List.getElem_toArray, List.getElem_cons_zero, List.getElem_cons_succ, List.setIfInBounds_toArray, List.set_cons_zero, List.set_cons_succ]
    refine hoist_take (i := 1) (v := ?_) rfl (by kernel_rfl) (by kernel_rfl) (by kernel_rfl) (by kernel_rfl) (fun _ _ _ h => h) XhS0.out (Or.inl ⟨by rfl, ?_⟩) ?_
    rotate_left
    · intro Wq hWq
      obtain ⟨x0, x1, x2, x3⟩ := hWq
      go_simp
      try with_reducible rfl
    try simp only [Act.put, List.getElem_toArray, List.getElem_cons_zero, List.getElem_cons_succ, List.setIfInBounds_toArray, List.set_cons_zero, List.set_cons_succ]
    refine hoist_take (i := 2) (v := ?_) rfl (by kernel_rfl) (by kernel_rfl) (by kernel_rfl) (by kernel_rfl) (fun _ _ _ h => h) XhS0.out (Or.inl ⟨by rfl, ?_⟩) ?_
    rotate_left
    · intro Wq hWq
      obtain ⟨x0, x1, x2, x3⟩ := hWq
      go_simp
      try with_reducible rfl
    try simp only [Act.put, List.getElem_toArray, List.getElem_cons_zero, List.getElem_cons_succ, List.setIfInBounds_toArray, List.set_cons_zero, List.set_cons_succ]
    refine hoist_two (i := 3) (j := 8) rfl rfl (by kernel_rfl) (fun K hK => ?wayA) (fun K hK => ?wayB)
    case' wayA =>
      have XhK0 := Lib.hid hK
      clear hK
      go_wp2_with fail
      refine (Xhord.out _ Xhkd.out).mono ?_
      rintro e w1 ⟨vo, rfl, oo, q1⟩
      obtain ⟨avo, cvo, rfl⟩ := own_form oo
      have q1' : Keep (fun b => b < W1.heap.size) W1 w1 := Xhkd.out.trans q1
      have oo' : w1.ownsRow W1.heap.size 3 1 (.slice avo ss.length cvo) ss.length ((ss.map StepD.lit).map (.int .i64)) := oo
      clear q1 oo
      have Xoo' := Lib.hid oo'
      have Xq1' := Lib.hid q1'
      clear oo' q1'
      go_wp2_with fail
      refine XhK0.out _ _ (fun _ => XhSk.out _ Xq1'.out) ?_
      refine hoist_two (i := 4) (j := 8) rfl rfl (by kernel_rfl) (fun K hK => ?wayAA) (fun K hK => ?wayAB)
    case' wayAA =>
      have XhK1 := Lib.hid hK
      clear hK
      go_wp2_with fail
      refine (Xhplan.out _ avo cvo Xq1'.out Xoo'.out).mono ?_
      rintro e w2 ⟨qs, vq, rfl, sq, hq, q2⟩
      have q2' : Keep (fun b => b < W1.heap.size) W1 w2 := Xq1'.out.trans (q2.mono fun b _ h => by have := Xq1'.out.size; omega)
      obtain ⟨avq, cvq, rfl⟩ := sq.form
      have sq' := sq.mono Xq1'.out.size
      have hz2 := q2'.size
      clear sq q2
      have Xsq' := Lib.hid sq'
      have Xq2' := Lib.hid q2'
      have Xhq := Lib.hid hq
      clear sq' q2' hq
      go_wp2_with fail
      refine XhK1.out _ _ (fun _ => XhSk.out _ Xq2'.out) ?_
      have XhS1 := Lib.hid (XhSk.out _ Xq2'.out)
      refine hoist_take (i := 5) (v := ?_) rfl (by kernel_rfl) (by kernel_rfl) (by kernel_rfl) (by kernel_rfl) (fun _ _ _ h => h) XhS1.out (Or.inl ⟨by rfl, ?_⟩) ?_
      rotate_left
      · intro Wq hWq
        obtain ⟨x0, x1, x2, x3⟩ := hWq
        go_simp
        try with_reducible rfl
      try simp only [Act.put, List.getElem_toArray, List.getElem_cons_zero, List.getElem_cons_succ, List.setIfInBounds_toArray, List.set_cons_zero, List.set_cons_succ]
      refine hoist_take (i := 6) (v := ?_) rfl (by kernel_rfl) (by kernel_rfl) (by kernel_rfl) (by kernel_rfl) (fun _ _ _ h => h) XhS1.out (Or.inl ⟨by rfl, ?_⟩) ?_
      rotate_left
      · intro Wq hWq
        obtain ⟨x0, x1, x2, x3⟩ := hWq
        go_simp
        try with_reducible rfl
      try simp only [Act.put, List.getElem_toArray, List.getElem_cons_zero, List.getElem_cons_succ, List.setIfInBounds_toArray, List.set_cons_zero, List.set_cons_succ]
      refine hoist_take (i := 7) (v := ?_) rfl (by kernel_rfl) (by kernel_rfl) (by kernel_rfl) (by kernel_rfl) (fun _ _ _ h => h) XhS1.out (Or.inl ⟨by rfl, ?_⟩) ?_
      rotate_left
      · intro Wq hWq
        obtain ⟨x0, x1, x2, x3⟩ := hWq
        go_simp
        try with_reducible rfl
      try simp only [Act.put, List.getElem_toArray, List.getElem_cons_zero, List.getElem_cons_succ, List.setIfInBounds_toArray, List.set_cons_zero, List.set_cons_succ]
      refine hoist_one (i := 8) rfl (by kernel_rfl) (fun K hK => ?_)
      have XhK2 := Lib.hid hK
      clear hK
      go_wp2_with fail
      refine XhK2.out _ _ (fun _ => XhSk.out _ (Xq2'.out.trans (Keep.alloc _ _ _))) ?_
      refine hoist_one (i := 9) rfl (by kernel_rfl) (fun K hK => ?_)
      have XhK3 := Lib.hid hK
      clear hK
      obtain ⟨B, hB⟩ : ∃ B, w2.heap.size = B := ⟨_, rfl⟩
      go_wp2_with fail
      refine XhK3.out _ _ (fun _ => XhSk.out _ (Xq2'.out.trans (Keep.alloc _ _ _))) ?_
      refine hoist_one (i := 10) rfl (by kernel_rfl) (fun K hK => ?_)
      have XhK4 := Lib.hid hK
      clear hK
      go_wp2_with fail
      refine XhK4.out _ _ (fun h => by simp at h) ?_
      refine hoist_done (by kernel_rfl) ?_
      refine post_abs (fun W => Keep (fun b => b < W1.heap.size) W1 W ∧ W.heap[B]? = some (.cells #[.string pr, .slice aa args.length ca, .slice ab body.length cb, .slice avq qs.length cvq] 34 (0, 0)) ∧ W1.heap.size ≤ B ∧ StepsOwn W1.heap.size W (.slice avq qs.length cvq) qs) ⟨Xq2'.out.trans (Keep.alloc _ _ _), by rw [← hB]; exact new_block _ _, by omega, Xsq'.out.keep (Keep.alloc (fun _ => True) _ _) (fun _ _ _ _ _ _ => trivial)⟩ ?_
      clear XhK0 XhK1 XhK2 XhK3 XhK4 XhS1 XhS0 Xoo' Xq1' Xsq' Xq2' hz2 hB
    case' wayAB =>
      have XhK1 := Lib.hid hK
      clear hK
      go_wp2_with fail
      obtain ⟨w1a, hw1a⟩ : ∃ W, w1.alloc (.cells #[.string ⟨#[]⟩, .slice none 0 0, .slice none 0 0, .slice none 0 0] 34) = W := ⟨_, rfl⟩
      have r1 := new_block w1 (.cells #[.string ⟨#[]⟩, .slice none 0 0, .slice none 0 0, .slice none 0 0] 34)
      rw [hw1a] at r1
      have q1a : Keep (fun _ => True) w1 w1a := by rw [← hw1a]; exact Keep.alloc _ _ _
      obtain ⟨B, hB⟩ : ∃ B, w1.heap.size = B := ⟨_, rfl⟩
      have hBW : W1.heap.size ≤ B := by have := Xq1'.out.size; omega
      have q1b : Keep (fun b => b < W1.heap.size) W1 w1a := Xq1'.out.trans (q1a.mono fun _ _ _ => trivial)
      have oo1 := own_kept Xoo'.out q1a (fun _ _ => trivial)
      rw [hw1a, hB]
      rw [hB] at r1
      refine XhK1.out _ _ (fun _ => XhSk.out _ q1b) ?_
      have Xr1 := Lib.hid r1
      have Xq1a := Lib.hid q1a
      have Xq1b := Lib.hid q1b
      have Xoo1 := Lib.hid oo1
      have Xhw1a := Lib.hid hw1a
      have XhB := Lib.hid hB
      clear r1 q1a q1b oo1 hw1a hB
      refine hoist_one (i := 4) rfl (by kernel_rfl) (fun K hK => ?_)
      have XhK2 := Lib.hid hK
      clear hK
      go_wp2_with fail
      refine (Xhplan.out _ avo cvo Xq1b.out Xoo1.out).mono ?_
      rintro e w2 ⟨qs, vq, rfl, sq, hq, q2⟩
      have q2' : Keep (fun b => b < W1.heap.size) W1 w2 := Xq1b.out.trans (q2.mono fun b _ h => by have := Xq1b.out.size; omega)
      obtain ⟨avq, cvq, rfl⟩ := sq.form
      have sq' := sq.mono (show B + 1 ≤ _ from by have := heap_lt Xr1.out; omega)
      have hz2 := q2'.size
      have r2 := q2.heap Xr1.out (heap_lt Xr1.out)
      clear sq q2
      have Xsq' := Lib.hid sq'
      have Xq2' := Lib.hid q2'
      have Xhq := Lib.hid hq
      have Xr2 := Lib.hid r2
      clear sq' q2' hq r2
      go_wp2_with fail
      refine XhK2.out _ _ (fun _ => XhSk.out _ Xq2'.out) ?_
      have XhS1 := Lib.hid (XhSk.out _ Xq2'.out)
      refine hoist_take (i := 5) (v := ?_) rfl (by kernel_rfl) (by kernel_rfl) (by kernel_rfl) (by kernel_rfl) (fun _ _ _ h => h) XhS1.out (Or.inl ⟨by rfl, ?_⟩) ?_
      rotate_left
      · intro Wq hWq
        obtain ⟨x0, x1, x2, x3⟩ := hWq
        go_simp
        try with_reducible rfl
      try simp only [Act.put, List.getElem_toArray, List.getElem_cons_zero, List.getElem_cons_succ, List.setIfInBounds_toArray, List.set_cons_zero, List.set_cons_succ]
      refine hoist_take (i := 6) (v := ?_) rfl (by kernel_rfl) (by kernel_rfl) (by kernel_rfl) (by kernel_rfl) (fun _ _ _ h => h) XhS1.out (Or.inl ⟨by rfl, ?_⟩) ?_
      rotate_left
      · intro Wq hWq
        obtain ⟨x0, x1, x2, x3⟩ := hWq
        go_simp
        try with_reducible rfl
      try simp only [Act.put, List.getElem_toArray, List.getElem_cons_zero, List.getElem_cons_succ, List.setIfInBounds_toArray, List.set_cons_zero, List.set_cons_succ]
      refine hoist_take (i := 7) (v := ?_) rfl (by kernel_rfl) (by kernel_rfl) (by kernel_rfl) (by kernel_rfl) (fun _ _ _ h => h) XhS1.out (Or.inl ⟨by rfl, ?_⟩) ?_
      rotate_left
      · intro Wq hWq
        obtain ⟨x0, x1, x2, x3⟩ := hWq
        go_simp
        try with_reducible rfl
      try simp only [Act.put, List.getElem_toArray, List.getElem_cons_zero, List.getElem_cons_succ, List.setIfInBounds_toArray, List.set_cons_zero, List.set_cons_succ]
      refine hoist_one (i := 9) rfl (by kernel_rfl) (fun K hK => ?_)
      have XhK3 := Lib.hid hK
      clear hK
      have y0 := box_free Xr2.out 0
      have y1 := box_free Xr2.out 1
      have y2 := box_free Xr2.out 2
      have y3 := box_free Xr2.out 3
      have hwlt := heap_lt Xr2.out
      have z0' := cells_of_block Xr2.out 0 _ rfl
      have z1' := cells_of_block Xr2.out 1 _ rfl
      have z2' := cells_of_block Xr2.out 2 _ rfl
      have z3' := cells_of_block Xr2.out 3 _ rfl
      simp only [Nat.zero_add] at z0' z1' z2' z3'
      have kS : Keep (fun b => b ≠ B) w2 ((((w2.setCell ⟨B, 0, none⟩ (.string pr)).setCell ⟨B, 1, none⟩ (.slice aa args.length ca)).setCell ⟨B, 2, none⟩ (.slice ab body.length cb)).setCell ⟨B, 3, none⟩ (.slice avq qs.length cvq)) := (((Keep.setCell _ _ _ (by simp)).trans (Keep.setCell _ _ _ (by simp))).trans (Keep.setCell _ _ _ (by simp))).trans (Keep.setCell _ _ _ (by simp))
      have kW : Keep (fun b => b < W1.heap.size) W1 ((((w2.setCell ⟨B, 0, none⟩ (.string pr)).setCell ⟨B, 1, none⟩ (.slice aa args.length ca)).setCell ⟨B, 2, none⟩ (.slice ab body.length cb)).setCell ⟨B, 3, none⟩ (.slice avq qs.length cvq)) := Xq2'.out.trans (kS.mono fun b _ h => by omega)
      have hs3 := Xsq'.out.keep kS (fun b cs t h _ _ => by omega)
      have XkS := Lib.hid kS
      have XkW := Lib.hid kW
      have Xhs3 := Lib.hid hs3
      clear kS kW hs3
      go_wp2_with fail
      refine XhK3.out _ _ (fun _ => XhSk.out _ XkW.out) ?_
      refine hoist_one (i := 10) rfl (by kernel_rfl) (fun K hK => ?_)
      have XhK4 := Lib.hid hK
      clear hK
      go_wp2_with fail
      refine XhK4.out _ _ (fun h => by simp at h) ?_
      refine hoist_done (by kernel_rfl) ?_
      refine post_abs (fun W => Keep (fun b => b < W1.heap.size) W1 W ∧ W.heap[B]? = some (.cells #[.string pr, .slice aa args.length ca, .slice ab body.length cb, .slice avq qs.length cvq] 34 (0, 0)) ∧ W1.heap.size ≤ B ∧ StepsOwn W1.heap.size W (.slice avq qs.length cvq) qs) ⟨XkW.out, set_at 3 _ (set_at 2 _ (set_at 1 _ (set_at 0 _ Xr2.out))), hBW, Xhs3.out.mono (by omega)⟩ ?_
      clear XkS XkW Xhs3 y0 y1 y2 y3 z0' z1' z2' z3' hwlt
      clear XhK0 XhK1 XhK2 XhK3 XhK4 XhS1 XhS0 Xoo' Xq1' Xq1a Xq1b Xoo1 Xhw1a XhB Xr1 Xr2 Xsq' Xq2' hz2
    case' wayB =>
      have XhK1 := Lib.hid hK
      clear hK
      go_wp2_with fail
      obtain ⟨w1a, hw1a⟩ : ∃ W, (W1.alloc (.cells #[.string ⟨#[]⟩, .slice none 0 0, .slice none 0 0, .slice none 0 0] 34)).drew = W := ⟨_, rfl⟩
      have r1 : (W1.alloc (.cells #[.string ⟨#[]⟩, .slice none 0 0, .slice none 0 0, .slice none 0 0] 34)).drew.heap[W1.heap.size]? = some _ := new_block W1 (.cells #[.string ⟨#[]⟩, .slice none 0 0, .slice none 0 0, .slice none 0 0] 34)
      rw [hw1a] at r1
      have q1a : Keep (fun _ => True) W1 w1a := by rw [← hw1a]; exact (Keep.alloc _ _ _).trans (Keep.drew _ _)
      obtain ⟨B, hB⟩ : ∃ B, W1.heap.size = B := ⟨_, rfl⟩
      have hBW : W1.heap.size ≤ B := by omega
      have q1b : Keep (fun b => b < W1.heap.size) W1 w1a := q1a.mono fun _ _ _ => trivial
      have hz1a : B + 1 ≤ w1a.heap.size := by rw [← hw1a, ← hB]; simp
      rw [hw1a]
      refine XhK1.out _ _ (fun _ => XhSk.out _ q1b) ?_
      have r1 := hB ▸ r1
      rw [show (Value.pointer (some ⟨W1.heap.size, 0, none⟩)) = .pointer (some ⟨B, 0, none⟩) by rw [hB]]
      have Xr1 := Lib.hid r1
      have Xq1a := Lib.hid q1a
      have Xq1b := Lib.hid q1b
      have Xhw1a := Lib.hid hw1a
      have XhB := Lib.hid hB
      clear r1 q1a q1b hw1a hB
      refine hoist_one (i := 3) rfl (by kernel_rfl) (fun K hK => ?_)
      have XhK2 := Lib.hid hK
      clear hK
      go_wp2_with fail
      refine (Xhord.out _ Xq1b.out).mono ?_
      rintro e w1b ⟨vo, rfl, oo, q1⟩
      obtain ⟨avo, cvo, rfl⟩ := own_form oo
      have q1c : Keep (fun b => b < W1.heap.size) W1 w1b := Xq1b.out.trans (q1.mono fun b _ h => by have := Xq1b.out.size; omega)
      have oo1 : w1b.ownsRow W1.heap.size 3 1 (.slice avo ss.length cvo) ss.length ((ss.map StepD.lit).map (.int .i64)) := oo.mono Xq1b.out.size
      have r1b := q1.heap Xr1.out (heap_lt Xr1.out)
      have hz1b := q1.size
      clear q1 oo
      have Xoo1 := Lib.hid oo1
      have Xq1c := Lib.hid q1c
      have Xr1b := Lib.hid r1b
      clear oo1 q1c r1b
      go_wp2_with fail
      refine XhK2.out _ _ (fun _ => XhSk.out _ Xq1c.out) ?_
      refine hoist_one (i := 4) rfl (by kernel_rfl) (fun K hK => ?_)
      have XhK3 := Lib.hid hK
      clear hK
      go_wp2_with fail
      refine (Xhplan.out _ avo cvo Xq1c.out Xoo1.out).mono ?_
      rintro e w2 ⟨qs, vq, rfl, sq, hq, q2⟩
      have q2' : Keep (fun b => b < W1.heap.size) W1 w2 := Xq1c.out.trans (q2.mono fun b _ h => by have := Xq1c.out.size; omega)
      obtain ⟨avq, cvq, rfl⟩ := sq.form
      have sq' := sq.mono (show B + 1 ≤ _ from by have := heap_lt Xr1b.out; omega)
      have hz2 := q2'.size
      have r2 := q2.heap Xr1b.out (heap_lt Xr1b.out)
      clear sq q2
      have Xsq' := Lib.hid sq'
      have Xq2' := Lib.hid q2'
      have Xhq := Lib.hid hq
      have Xr2 := Lib.hid r2
      clear sq' q2' hq r2
      go_wp2_with fail
      refine XhK3.out _ _ (fun _ => XhSk.out _ Xq2'.out) ?_
      have XhS1 := Lib.hid (XhSk.out _ Xq2'.out)
      refine hoist_take (i := 5) (v := ?_) rfl (by kernel_rfl) (by kernel_rfl) (by kernel_rfl) (by kernel_rfl) (fun _ _ _ h => h) XhS1.out (Or.inl ⟨by rfl, ?_⟩) ?_
      rotate_left
      · intro Wq hWq
        obtain ⟨x0, x1, x2, x3⟩ := hWq
        go_simp
        try with_reducible rfl
      try simp only [Act.put, List.getElem_toArray, List.getElem_cons_zero, List.getElem_cons_succ, List.setIfInBounds_toArray, List.set_cons_zero, List.set_cons_succ]
      refine hoist_take (i := 6) (v := ?_) rfl (by kernel_rfl) (by kernel_rfl) (by kernel_rfl) (by kernel_rfl) (fun _ _ _ h => h) XhS1.out (Or.inl ⟨by rfl, ?_⟩) ?_
      rotate_left
      · intro Wq hWq
        obtain ⟨x0, x1, x2, x3⟩ := hWq
        go_simp
        try with_reducible rfl
      try simp only [Act.put, List.getElem_toArray, List.getElem_cons_zero, List.getElem_cons_succ, List.setIfInBounds_toArray, List.set_cons_zero, List.set_cons_succ]
      refine hoist_take (i := 7) (v := ?_) rfl (by kernel_rfl) (by kernel_rfl) (by kernel_rfl) (by kernel_rfl) (fun _ _ _ h => h) XhS1.out (Or.inl ⟨by rfl, ?_⟩) ?_
      rotate_left
      · intro Wq hWq
        obtain ⟨x0, x1, x2, x3⟩ := hWq
        go_simp
        try with_reducible rfl
      try simp only [Act.put, List.getElem_toArray, List.getElem_cons_zero, List.getElem_cons_succ, List.setIfInBounds_toArray, List.set_cons_zero, List.set_cons_succ]
      refine hoist_one (i := 9) rfl (by kernel_rfl) (fun K hK => ?_)
      have XhK4 := Lib.hid hK
      clear hK
      have y0 := box_free Xr2.out 0
      have y1 := box_free Xr2.out 1
      have y2 := box_free Xr2.out 2
      have y3 := box_free Xr2.out 3
      have hwlt := heap_lt Xr2.out
      have z0' := cells_of_block Xr2.out 0 _ rfl
      have z1' := cells_of_block Xr2.out 1 _ rfl
      have z2' := cells_of_block Xr2.out 2 _ rfl
      have z3' := cells_of_block Xr2.out 3 _ rfl
      simp only [Nat.zero_add] at z0' z1' z2' z3'
      have kS : Keep (fun b => b ≠ B) w2 ((((w2.setCell ⟨B, 0, none⟩ (.string pr)).setCell ⟨B, 1, none⟩ (.slice aa args.length ca)).setCell ⟨B, 2, none⟩ (.slice ab body.length cb)).setCell ⟨B, 3, none⟩ (.slice avq qs.length cvq)) := (((Keep.setCell _ _ _ (by simp)).trans (Keep.setCell _ _ _ (by simp))).trans (Keep.setCell _ _ _ (by simp))).trans (Keep.setCell _ _ _ (by simp))
      have kW : Keep (fun b => b < W1.heap.size) W1 ((((w2.setCell ⟨B, 0, none⟩ (.string pr)).setCell ⟨B, 1, none⟩ (.slice aa args.length ca)).setCell ⟨B, 2, none⟩ (.slice ab body.length cb)).setCell ⟨B, 3, none⟩ (.slice avq qs.length cvq)) := Xq2'.out.trans (kS.mono fun b _ h => by omega)
      have hs3 := Xsq'.out.keep kS (fun b cs t h _ _ => by omega)
      have XkS := Lib.hid kS
      have XkW := Lib.hid kW
      have Xhs3 := Lib.hid hs3
      clear kS kW hs3
      go_wp2_with fail
      refine XhK4.out _ _ (fun _ => XhSk.out _ XkW.out) ?_
      refine hoist_one (i := 10) rfl (by kernel_rfl) (fun K hK => ?_)
      have XhK5 := Lib.hid hK
      clear hK
      go_wp2_with fail
      refine XhK5.out _ _ (fun h => by simp at h) ?_
      refine hoist_done (by kernel_rfl) ?_
      refine post_abs (fun W => Keep (fun b => b < W1.heap.size) W1 W ∧ W.heap[B]? = some (.cells #[.string pr, .slice aa args.length ca, .slice ab body.length cb, .slice avq qs.length cvq] 34 (0, 0)) ∧ W1.heap.size ≤ B ∧ StepsOwn W1.heap.size W (.slice avq qs.length cvq) qs) ⟨XkW.out, set_at 3 _ (set_at 2 _ (set_at 1 _ (set_at 0 _ Xr2.out))), hBW, Xhs3.out.mono (by omega)⟩ ?_
      clear XkS XkW Xhs3 y0 y1 y2 y3 z0' z1' z2' z3' hwlt
      clear XhK1 XhK2 XhK3 XhK4 XhK5 XhS1 XhS0 Xq1a Xq1b Xq1c Xoo1 Xhw1a XhB Xr1 Xr1b Xr2 Xsq' Xq2' hz2 hz1a hz1b
    all_goals
      rintro W5 ⟨k5, bB, hBW, sq5⟩
      have hz5 := k5.size
      have a5 := k5.heap Xb1.out hNl1
      have c3 := cells_of_block a5 3 _ rfl
      have q3 := cells_of_block bB 3 _ rfl
      simp only [Nat.zero_add] at c3 q3
      have hNl5 : N < W5.heap.size := by omega
      have hBl5 := heap_lt bB
      have kw5 : Keep (fun b => b < w.heap.size) w W5 := Xkw1.out.trans (k5.mono fun b _ h => by have := XhN.out; omega)
      clear a5 e0 e1 e2 e3
      cases ok
      · have hE2 : rightB ⟨⟨⟨pr, args⟩, body⟩, ss⟩ = false := by
          rw [XhE.out, Xhpl.out]
          have := Xhok.out
          cases pl with
          | none => rfl
          | some s => cases this
        have Xk5 := Lib.hid k5
        have XbB := Lib.hid bB
        have Xsq5 := Lib.hid sq5
        have Xkw5 := Lib.hid kw5
        have XhE2 := Lib.hid hE2
        clear k5 bB sq5 kw5 hE2
        go_wp2_with fail
        go_ret
        exact ⟨by rw [XhE2.out]; rfl, Xkw5.out⟩
      · obtain ⟨s, hs2⟩ := Option.isSome_iff_exists.1 Xhok.out
        have hsq := Xhq.out s hs2
        subst hsq
        have hszd := planned_sized (r := ⟨⟨pr, args⟩, body⟩) Xhsized.out (Xhpl.out.trans hs2) XhF.out
        have hE2 : rightB ⟨⟨⟨pr, args⟩, body⟩, ss⟩ = decide (ss = s) := by
          rw [XhE.out, Xhpl.out, hs2, Bool.true_and, decide_eq_decide]
          simp only [Option.some.injEq]
          exact eq_comm
        have hss := refSameSteps_any W5.heap.size (.slice asv ss.length csv) (.slice avq s.length cvq) ss s W5 (StepsIn.wider (Xhs.out.keep (kw5.mono fun b _ h => by omega)) (by have := XhN.out; omega)) (sq5.steps hszd) (Nat.le_refl _)
        obtain ⟨bb, hbb⟩ : ∃ b, decide (ss = s) = b := ⟨_, rfl⟩
        rw [hbb] at hss hE2
        clear hs2 hbb
        have Xk5 := Lib.hid k5
        have XbB := Lib.hid bB
        have Xsq5 := Lib.hid sq5
        have Xkw5 := Lib.hid kw5
        have XhE2 := Lib.hid hE2
        have Xhss := Lib.hid hss
        have Xhszd := Lib.hid hszd
        clear k5 bB sq5 kw5 hE2 hss hszd
        go_wp2_with fail
        refine Xhss.out.mono ?_
        rintro e W6 ⟨rfl, k6⟩
        go_wp2_with fail
        go_ret
        exact ⟨by rw [XhE2.out]; cases bb <;> rfl, Xkw5.out.trans (k6.mono fun _ _ _ => trivial)⟩
end Go.Proofs
