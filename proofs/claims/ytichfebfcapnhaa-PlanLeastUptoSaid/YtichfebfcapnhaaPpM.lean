/- Layer 16 (plan): the law PlanRights. -/
import Derived.Test.YtichfebfcapnhaaProg
import Derived.Test.YtichfebfcapnhaaPpL
import Derived.Test.YtichfebfcapnhaaPoEToPpA
import Derived.Test.YtichfebfcapnhaaOwnToRowC
namespace Go.Proofs
open Go.RowKit Go.Ink Go.Flt
set_option linter.unusedVariables false
set_option linter.unusedSimpArgs false
attribute [local go_sem] Oper.semAt_some

theorem costD_inf (p : PlanD) (l : List SizeD) : costD p l ≤ 9218868437227405312 := by
  have := sumD_inf (rowsD_le (p := p) (l := l)) _ (Nat.le_refl _)
  rwa [List.take_length] at this

set_option maxRecDepth 100000 in
set_option maxHeartbeats 2000000 in
theorem lawPlanRights_any (n : Nat) (p : PlanD) (hsm : smallR p.rule) (vh vb vs : Value) (l : List SizeD) (sv : Value) (w : World) (hp : PlanIn n w vh vb vs p) (hl : SizesIn n w sv l) (hn : n ≤ w.heap.size) :
    Calls Try.prog 5 #[planV p vh vb vs, sv] w fun e w' => e = .returned (.bool true) ∧ Keep (fun b => b < w.heap.size) w w' := by
  have f1 := fun W (hK : Keep (fun b => b < w.heap.size) w W) => rows_any n p vh vb vs l sv W (hp.keep (hK.mono fun b _ h => by omega)) (hl.keep (hK.mono fun b _ h => by omega)) (by have := hK.size; omega)
  have f2 := fun W (hK : Keep (fun b => b < w.heap.size) w W) => refRows_any n p hsm vh vb vs l sv W (hp.keep (hK.mono fun b _ h => by omega)) (hl.keep (hK.mono fun b _ h => by omega)) (by have := hK.size; omega)
  have f3 := fun W (hK : Keep (fun b => b < w.heap.size) w W) => cost_any n p vh vb vs l sv W (hp.keep (hK.mono fun b _ h => by omega)) (hl.keep (hK.mono fun b _ h => by omega)) (by have := hK.size; omega)
  have f4 := fun W (hK : Keep (fun b => b < w.heap.size) w W) => refCost_any n p hsm vh vb vs l sv W (hp.keep (hK.mono fun b _ h => by omega)) (hl.keep (hK.mono fun b _ h => by omega)) (by have := hK.size; omega)
  have f5 := fun W (hK : Keep (fun b => b < w.heap.size) w W) => right_any n p vh vb vs W (hp.keep (hK.mono fun b _ h => by omega)) (by have := hK.size; omega)
  have f6 := fun W (hK : Keep (fun b => b < w.heap.size) w W) => refRight_any n p hsm vh vb vs W (hp.keep (hK.mono fun b _ h => by omega)) (by have := hK.size; omega)
  have hself : FloatKind.f64.format.order (costD p l) (costD p l) = some .eq := order_self (costD_inf p l)
  have hle := rowsD_le (p := p) (l := l)
  have hlen := rowsD_len (p := p) (l := l)
  obtain ⟨hr, hs⟩ := id hp
  obtain ⟨⟨⟨pr, args⟩, body⟩, ss⟩ := p
  unfold planV at *
  simp only at hr hs f1 f2 f3 f4 f5 f6 hlen ⊢
  obtain ⟨hh, hb⟩ := id hr
  simp only at hh hb
  obtain ⟨aa, ca, rfl, -, -, -⟩ := id hh
  obtain ⟨ab, cb, rfl, -, -, -⟩ := id hb
  obtain ⟨asv, csv, rfl, hls, -, -⟩ := id hs
  obtain ⟨asl, csl, rfl, -, -, -⟩ := id hl
  obtain ⟨N, hN⟩ : ∃ N, w.heap.size = N := ⟨_, rfl⟩
  obtain ⟨W0, hW0⟩ : ∃ W0, w.alloc (.cells #[.string pr, .slice aa args.length ca, .slice ab body.length cb, .slice asv ss.length csv] 34) = W0 := ⟨_, rfl⟩
  have k0 : Keep (fun b => b < w.heap.size) w W0 := by rw [← hW0]; exact Keep.alloc _ _ _
  have z0 : W0.heap.size = w.heap.size + 1 := by rw [← hW0]; simp
  have a1 : W0.heap[w.heap.size]? = some (.cells #[.string pr, .slice aa args.length ca, .slice ab body.length cb, .slice asv ss.length csv] 34 (0, 0)) := by rw [← hW0]; exact new_block _ _
  rw [hN] at a1
  have hS0 : (fun W : World => W.cell? ⟨N, 0, none⟩ = some (.string pr) ∧ W.cell? ⟨N, 1, none⟩ = some (.slice aa args.length ca) ∧ W.cell? ⟨N, 2, none⟩ = some (.slice ab body.length cb) ∧ W.cell? ⟨N, 3, none⟩ = some (.slice asv ss.length csv)) W0 := by
    have c0 := cells_of_block a1 0 _ rfl
    have c1 := cells_of_block a1 1 _ rfl
    have c2 := cells_of_block a1 2 _ rfl
    have c3 := cells_of_block a1 3 _ rfl
    simp only [Nat.zero_add] at c0 c1 c2 c3
    exact ⟨c0, c1, c2, c3⟩
  have hNl : N < W0.heap.size := by omega
  have hSk := fun W (hK : Keep (fun b => b < W0.heap.size) W0 W) => (show (fun W : World => W.cell? ⟨N, 0, none⟩ = some (.string pr) ∧ W.cell? ⟨N, 1, none⟩ = some (.slice aa args.length ca) ∧ W.cell? ⟨N, 2, none⟩ = some (.slice ab body.length cb) ∧ W.cell? ⟨N, 3, none⟩ = some (.slice asv ss.length csv)) W from ⟨hK.cell hS0.1 hNl, hK.cell hS0.2.1 hNl, hK.cell hS0.2.2.1 hNl, hK.cell hS0.2.2.2 hNl⟩)
  obtain ⟨er, her⟩ : ∃ e, rowsErr ⟨⟨⟨pr, args⟩, body⟩, ss⟩ l = e := ⟨_, rfl⟩
  obtain ⟨rd, hrd⟩ : ∃ e, rowsD ⟨⟨⟨pr, args⟩, body⟩, ss⟩ l = e := ⟨_, rfl⟩
  obtain ⟨co, hco⟩ : ∃ e, costD ⟨⟨⟨pr, args⟩, body⟩, ss⟩ l = e := ⟨_, rfl⟩
  obtain ⟨br, hbr⟩ : ∃ e, rightB ⟨⟨⟨pr, args⟩, body⟩, ss⟩ = e := ⟨_, rfl⟩
  rw [hco] at hself
  rw [hrd] at hle hlen
  simp only [her, hrd, hco, hbr] at f1 f2 f3 f4 f5 f6
  have hce : (FloatKind.f64.format.order co co == some .eq) = true := by rw [hself]; rfl
  have hbb : (br == br) = true := by simp
  have hee : (er == er) = true := by simp
  have g1 := f1 W0 k0
  obtain ⟨c0, c1, c2, c3⟩ := id hS0
  have back : ∀ W, Keep (fun b => b < W0.heap.size) W0 W → Keep (fun b => b < w.heap.size) w W := fun W hK => k0.trans (hK.mono fun b _ h => by omega)
  clear hh hb hr hs hp her hrd hco hbr hself hsm
  have Xf1 := Lib.hid f1
  have Xf2 := Lib.hid f2
  have Xf3 := Lib.hid f3
  have Xf4 := Lib.hid f4
  have Xf5 := Lib.hid f5
  have Xf6 := Lib.hid f6
  have Xg1 := Lib.hid g1
  have Xhle := Lib.hid hle
  have XhN := Lib.hid hN
  have XhW0 := Lib.hid hW0
  have Xk0 := Lib.hid k0
  have Xa1 := Lib.hid a1
  have Xhl := Lib.hid hl
  have XhS0 := Lib.hid hS0
  have XhSk := Lib.hid hSk
  have Xback := Lib.hid back
  clear f1 f2 f3 f4 f5 f6 g1 hle hN hW0 k0 a1 hl hS0 hSk back
  go_enter Try.func5, Try.ntmps5
  go_wp2_with fail
  rw [XhW0.out, XhN.out]
  refine Xg1.out.mono ?_
  rintro e W1 ⟨va, rfl, oa, k1⟩
  obtain ⟨aA, cA, rfl⟩ := own_form oa
  have ka : Keep (fun b => b < W0.heap.size) W0 W1 := k1
  have g2 := Xf2.out W1 (Xback.out _ ka)
  obtain ⟨d0, d1, d2, d3⟩ := XhSk.out _ ka
  have hz1 := ka.size
  have hN1 : N < W1.heap.size := by omega
  have hA := own_floats oa (by omega)
  clear c0 c1 c2 c3 oa k1
  have Xka := Lib.hid ka
  have Xg2 := Lib.hid g2
  have XhA := Lib.hid hA
  clear ka g2 hA
  go_wp2_with fail
  refine Xg2.out.mono ?_
  rintro e W2 ⟨vb2, rfl, ob, k2⟩
  obtain ⟨aB, cB, rfl⟩ := own_form ob
  have kb : Keep (fun b => b < W0.heap.size) W0 W2 := Xka.out.trans (k2.mono fun b _ h => by omega)
  have g3 := Xf3.out W2 (Xback.out _ kb)
  obtain ⟨c0, c1, c2, c3⟩ := XhSk.out _ kb
  have hz2 := k2.size
  have hN2 : N < W2.heap.size := by omega
  have hB := own_floats ob (by omega)
  have hA2 := floats_wider (floats_kept XhA.out k2) hz2
  clear d0 d1 d2 d3 ob k2
  have Xkb := Lib.hid kb
  have Xg3 := Lib.hid g3
  have XhA2 := Lib.hid hA2
  have XhB := Lib.hid hB
  clear kb g3 hA2 hB
  go_wp2_with fail
  refine Xg3.out.mono ?_
  rintro e W3 ⟨rfl, k3⟩
  have kc : Keep (fun b => b < W0.heap.size) W0 W3 := Xkb.out.trans (k3.mono fun b _ h => by omega)
  have g4 := Xf4.out W3 (Xback.out _ kc)
  obtain ⟨d0, d1, d2, d3⟩ := XhSk.out _ kc
  have hz3 := k3.size
  have hN3 : N < W3.heap.size := by omega
  clear c0 c1 c2 c3
  have Xkc := Lib.hid kc
  have Xg4 := Lib.hid g4
  have Xk3 := Lib.hid k3
  clear kc g4 k3
  go_wp2_with fail
  refine Xg4.out.mono ?_
  rintro e W4 ⟨rfl, k4⟩
  have hz4 := k4.size
  have kd : Keep (fun b => b < W0.heap.size) W0 W4 := Xkc.out.trans (k4.mono fun b _ h => by omega)
  have k24 : Keep (fun b => b < W2.heap.size) W2 W4 := Xk3.out.trans (k4.mono fun b _ h => by omega)
  have hA4 := floats_kept XhA2.out k24
  have hB4 := floats_kept XhB.out k24
  have hal := fun W (hK : Keep (fun b => b < W4.heap.size) W4 W) => alike_any W2.heap.size _ _ rd Xhle.out W (floats_kept hA4 (hK.mono fun b _ h => by omega)) (floats_kept hB4 (hK.mono fun b _ h => by have := hK.size; omega)) (by have := hK.size; omega)
  obtain ⟨c0, c1, c2, c3⟩ := XhSk.out _ kd
  have hS4 : (fun W : World => W.cell? ⟨N, 0, none⟩ = some (.string pr) ∧ W.cell? ⟨N, 1, none⟩ = some (.slice aa args.length ca) ∧ W.cell? ⟨N, 2, none⟩ = some (.slice ab body.length cb) ∧ W.cell? ⟨N, 3, none⟩ = some (.slice asv ss.length csv)) W4.drew := ⟨c0, c1, c2, c3⟩
  have hSk4 := fun W (hK : Keep (fun b => b < W4.heap.size) W4 W) => XhSk.out W (kd.trans (hK.mono fun b _ h => by omega))
  have back4 := fun W (hK : Keep (fun b => b < W4.heap.size) W4 W) => Xback.out W (kd.trans (hK.mono fun b _ h => by omega))
  have hkd : Keep (fun b => b < W4.heap.size) W4 W4.drew := Keep.drew _ _
  clear d0 d1 d2 d3 c0 c1 c2 c3 k4
  have Xkd := Lib.hid kd
  have Xhal := Lib.hid hal
  have XhS4 := Lib.hid hS4
  have XhSk4 := Lib.hid hSk4
  have Xback4 := Lib.hid back4
  have XhA4 := Lib.hid hA4
  have XhB4 := Lib.hid hB4
  have Xk24 := Lib.hid k24
  have Xhkd := Lib.hid hkd
  clear kd hal hS4 hSk4 back4 hA4 hB4 k24 hkd
  go_wp2_with fail
  refine region_hoist rfl (fun W : World => W.cell? ⟨N, 0, none⟩ = some (.string pr) ∧ W.cell? ⟨N, 1, none⟩ = some (.slice aa args.length ca) ∧ W.cell? ⟨N, 2, none⟩ = some (.slice ab body.length cb) ∧ W.cell? ⟨N, 3, none⟩ = some (.slice asv ss.length csv)) [30] ?_
  refine hoist_take (i := 0) (v := ?_) rfl (by kernel_rfl) (by kernel_rfl) (by kernel_rfl) (by kernel_rfl) (fun _ _ _ h => h) XhS4.out (Or.inl ⟨by rfl, ?_⟩) ?_
  rotate_left
  · intro Wq hWq
    obtain ⟨x0, x1, x2, x3⟩ := hWq
    go_simp
    try with_reducible rfl
  try simp only [Act.put, List.getElem_toArray, List.getElem_cons_zero, List.getElem_cons_succ, List.setIfInBounds_toArray, List.set_cons_zero, List.set_cons_succ]
  refine hoist_take (i := 2) (v := ?_) rfl (by kernel_rfl) (by kernel_rfl) (by kernel_rfl) (by kernel_rfl) (fun _ _ _ h => h) XhS4.out (Or.inl ⟨by rfl, ?_⟩) ?_
  rotate_left
  · intro Wq hWq
    obtain ⟨x0, x1, x2, x3⟩ := hWq
    go_simp
    try with_reducible rfl
  try simp only [Act.put, List.getElem_toArray, List.getElem_cons_zero, List.getElem_cons_succ, List.setIfInBounds_toArray, List.set_cons_zero, List.set_cons_succ]
  refine hoist_one (i := 1) rfl (by kernel_rfl) (fun K hK => ?_)
  have XhK0 := Lib.hid hK
  clear hK
  go_wp2_with fail
  refine (Xf5.out _ (Xback4.out _ Xhkd.out)).mono ?_
  rintro e w1 ⟨rfl, q1⟩
  have q1' : Keep (fun b => b < W4.heap.size) W4 w1 := Xhkd.out.trans q1
  clear q1
  have Xq1' := Lib.hid q1'
  clear q1'
  go_wp2_with fail
  refine XhK0.out _ _ (fun _ => XhSk4.out _ Xq1'.out) ?_
  refine hoist_one (i := 3) rfl (by kernel_rfl) (fun K hK => ?_)
  have XhK1 := Lib.hid hK
  clear hK
  go_wp2_with fail
  refine (Xf6.out _ (Xback4.out _ Xq1'.out)).mono ?_
  rintro e w2 ⟨rfl, q2⟩
  have q2' : Keep (fun b => b < W4.heap.size) W4 w2 := Xq1'.out.trans (q2.mono fun b _ h => by have := Xq1'.out.size; omega)
  have hS5 := XhSk4.out _ q2'
  clear q2
  have Xq2' := Lib.hid q2'
  have XhS5 := Lib.hid hS5
  clear q2' hS5
  go_wp2_with fail
  refine XhK1.out _ _ (fun _ => XhSk4.out _ Xq2'.out) ?_
  refine hoist_take (i := 4) (v := ?_) rfl (by kernel_rfl) (by kernel_rfl) (by kernel_rfl) (by kernel_rfl) (fun _ _ _ h => h) XhS5.out (Or.inl ⟨by kernel_rfl, ?_⟩) ?_
  rotate_left
  · intro Wq hWq
    obtain ⟨x0, x1, x2, x3⟩ := hWq
    go_simp
    try simp only [hbb]
    try with_reducible rfl
  try simp only [Act.put, List.getElem_toArray, List.getElem_cons_zero, List.getElem_cons_succ, List.setIfInBounds_toArray, List.set_cons_zero, List.set_cons_succ]
  refine hoist_take (i := 5) (v := ?_) rfl (by kernel_rfl) (by kernel_rfl) (by kernel_rfl) (by kernel_rfl) (fun _ _ _ h => h) XhS5.out (Or.inl ⟨by kernel_rfl, ?_⟩) ?_
  rotate_left
  · intro Wq hWq
    obtain ⟨x0, x1, x2, x3⟩ := hWq
    go_simp
    try simp only [hbb]
    try with_reducible rfl
  try simp only [Act.put, List.getElem_toArray, List.getElem_cons_zero, List.getElem_cons_succ, List.setIfInBounds_toArray, List.set_cons_zero, List.set_cons_succ]
  refine hoist_take (i := 6) (v := ?_) rfl (by kernel_rfl) (by kernel_rfl) (by kernel_rfl) (by kernel_rfl) (fun _ _ _ h => h) XhS5.out (Or.inl ⟨by kernel_rfl, ?_⟩) ?_
  rotate_left
  · intro Wq hWq
    obtain ⟨x0, x1, x2, x3⟩ := hWq
    go_simp
    try simp only [hbb]
    try with_reducible rfl
  try simp only [Act.put, List.getElem_toArray, List.getElem_cons_zero, List.getElem_cons_succ, List.setIfInBounds_toArray, List.set_cons_zero, List.set_cons_succ]
  refine hoist_take (i := 7) (v := ?_) rfl (by kernel_rfl) (by kernel_rfl) (by kernel_rfl) (by kernel_rfl) (fun _ _ _ h => h) XhS5.out (Or.inl ⟨by kernel_rfl, ?_⟩) ?_
  rotate_left
  · intro Wq hWq
    obtain ⟨x0, x1, x2, x3⟩ := hWq
    go_simp
    try simp only [hbb]
    try with_reducible rfl
  try simp only [Act.put, List.getElem_toArray, List.getElem_cons_zero, List.getElem_cons_succ, List.setIfInBounds_toArray, List.set_cons_zero, List.set_cons_succ]
  refine hoist_one (i := 8) rfl (by kernel_rfl) (fun K hK => ?_)
  have XhK2 := Lib.hid hK
  clear hK
  go_wp2_with fail
  refine (Xhal.out _ Xq2'.out).mono ?_
  rintro e w3 ⟨rfl, m3, rfl⟩
  obtain ⟨w3, hw3⟩ : ∃ W, w2.drewN m3 = W := ⟨_, rfl⟩
  have q3' : Keep (fun b => b < W4.heap.size) W4 w3 := by rw [← hw3]; exact Xq2'.out.trans (Keep.drewN' _ _ _)
  have hS6 := XhSk4.out _ q3'
  have Xq3' := Lib.hid q3'
  have XhS6 := Lib.hid hS6
  have Xhw3 := Lib.hid hw3
  clear q3' hS6 hw3
  go_wp2_with fail
  rw [Xhw3.out]
  refine XhK2.out _ _ (fun _ => XhSk4.out _ Xq3'.out) ?_
  refine hoist_take (i := 9) (v := ?_) rfl (by kernel_rfl) (by kernel_rfl) (by kernel_rfl) (by kernel_rfl) (fun _ _ _ h => h) XhS6.out (Or.inl ⟨by kernel_rfl, ?_⟩) ?_
  rotate_left
  · intro Wq hWq
    obtain ⟨x0, x1, x2, x3⟩ := hWq
    go_simp
    try simp only [hbb]
    try with_reducible rfl
  try simp only [Act.put, List.getElem_toArray, List.getElem_cons_zero, List.getElem_cons_succ, List.setIfInBounds_toArray, List.set_cons_zero, List.set_cons_succ]
  refine hoist_take (i := 10) (v := ?_) rfl (by kernel_rfl) (by kernel_rfl) (by kernel_rfl) (by kernel_rfl) (fun _ _ _ h => h) XhS6.out (Or.inl ⟨by kernel_rfl, ?_⟩) ?_
  rotate_left
  · intro Wq hWq
    obtain ⟨x0, x1, x2, x3⟩ := hWq
    go_simp
    try simp only [hbb]
    try with_reducible rfl
  try simp only [Act.put, List.getElem_toArray, List.getElem_cons_zero, List.getElem_cons_succ, List.setIfInBounds_toArray, List.set_cons_zero, List.set_cons_succ]
  refine hoist_take (i := 11) (v := ?_) rfl (by kernel_rfl) (by kernel_rfl) (by kernel_rfl) (by kernel_rfl) (fun _ _ _ h => h) XhS6.out (Or.inl ⟨by kernel_rfl, ?_⟩) ?_
  rotate_left
  · intro Wq hWq
    obtain ⟨x0, x1, x2, x3⟩ := hWq
    go_simp
    try simp only [hbb]
    try with_reducible rfl
  try simp only [Act.put, List.getElem_toArray, List.getElem_cons_zero, List.getElem_cons_succ, List.setIfInBounds_toArray, List.set_cons_zero, List.set_cons_succ]
  refine hoist_take (i := 13) (v := ?_) rfl (by kernel_rfl) (by kernel_rfl) (by kernel_rfl) (by kernel_rfl) (fun _ _ _ h => h) XhS6.out (Or.inl ⟨by kernel_rfl, ?_⟩) ?_
  rotate_left
  · intro Wq hWq
    obtain ⟨x0, x1, x2, x3⟩ := hWq
    go_simp
    try simp only [hbb]
    try with_reducible rfl
  try simp only [Act.put, List.getElem_toArray, List.getElem_cons_zero, List.getElem_cons_succ, List.setIfInBounds_toArray, List.set_cons_zero, List.set_cons_succ]
  refine hoist_one (i := 12) rfl (by kernel_rfl) (fun K hK => ?_)
  have XhK3 := Lib.hid hK
  clear hK
  go_wp2_with fail
  refine (lawNum_any er w3).mono ?_
  rintro e w9 ⟨rfl, hw9⟩; have hw9 := hw9.symm; subst hw9
  go_wp2_with fail
  refine XhK3.out _ _ (fun _ => XhSk4.out _ Xq3'.out) ?_
  refine hoist_take (i := 14) (v := ?_) rfl (by kernel_rfl) (by kernel_rfl) (by kernel_rfl) (by kernel_rfl) (fun _ _ _ h => h) XhS6.out (Or.inl ⟨by kernel_rfl, ?_⟩) ?_
  rotate_left
  · intro Wq hWq
    obtain ⟨x0, x1, x2, x3⟩ := hWq
    go_simp
    try simp only [hbb, hee, hce]
    try with_reducible rfl
  try simp only [Act.put, List.getElem_toArray, List.getElem_cons_zero, List.getElem_cons_succ, List.setIfInBounds_toArray, List.set_cons_zero, List.set_cons_succ]
  refine hoist_take (i := 15) (v := ?_) rfl (by kernel_rfl) (by kernel_rfl) (by kernel_rfl) (by kernel_rfl) (fun _ _ _ h => h) XhS6.out (Or.inl ⟨by kernel_rfl, ?_⟩) ?_
  rotate_left
  · intro Wq hWq
    obtain ⟨x0, x1, x2, x3⟩ := hWq
    go_simp
    try simp only [hbb, hee, hce]
    try with_reducible rfl
  try simp only [Act.put, List.getElem_toArray, List.getElem_cons_zero, List.getElem_cons_succ, List.setIfInBounds_toArray, List.set_cons_zero, List.set_cons_succ]
  refine hoist_take (i := 16) (v := ?_) rfl (by kernel_rfl) (by kernel_rfl) (by kernel_rfl) (by kernel_rfl) (fun _ _ _ h => h) XhS6.out (Or.inl ⟨by kernel_rfl, ?_⟩) ?_
  rotate_left
  · intro Wq hWq
    obtain ⟨x0, x1, x2, x3⟩ := hWq
    go_simp
    try simp only [hbb, hee, hce]
    try with_reducible rfl
  try simp only [Act.put, List.getElem_toArray, List.getElem_cons_zero, List.getElem_cons_succ, List.setIfInBounds_toArray, List.set_cons_zero, List.set_cons_succ]
  refine hoist_take (i := 17) (v := ?_) rfl (by kernel_rfl) (by kernel_rfl) (by kernel_rfl) (by kernel_rfl) (fun _ _ _ h => h) XhS6.out (Or.inl ⟨by kernel_rfl, ?_⟩) ?_
  rotate_left
  · intro Wq hWq
    obtain ⟨x0, x1, x2, x3⟩ := hWq
    go_simp
    try simp only [hbb, hee, hce]
    try with_reducible rfl
  try simp only [Act.put, List.getElem_toArray, List.getElem_cons_zero, List.getElem_cons_succ, List.setIfInBounds_toArray, List.set_cons_zero, List.set_cons_succ]
  refine hoist_take (i := 18) (v := ?_) rfl (by kernel_rfl) (by kernel_rfl) (by kernel_rfl) (by kernel_rfl) (fun _ _ _ h => h) XhS6.out (Or.inl ⟨by kernel_rfl, ?_⟩) ?_
  rotate_left
  · intro Wq hWq
    obtain ⟨x0, x1, x2, x3⟩ := hWq
    go_simp
    try simp only [hbb, hee, hce]
    try with_reducible rfl
  try simp only [Act.put, List.getElem_toArray, List.getElem_cons_zero, List.getElem_cons_succ, List.setIfInBounds_toArray, List.set_cons_zero, List.set_cons_succ]
  refine hoist_take (i := 19) (v := ?_) rfl (by kernel_rfl) (by kernel_rfl) (by kernel_rfl) (by kernel_rfl) (fun _ _ _ h => h) XhS6.out (Or.inl ⟨by kernel_rfl, ?_⟩) ?_
  rotate_left
  · intro Wq hWq
    obtain ⟨x0, x1, x2, x3⟩ := hWq
    go_simp
    try simp only [hbb, hee, hce]
    try with_reducible rfl
  try simp only [Act.put, List.getElem_toArray, List.getElem_cons_zero, List.getElem_cons_succ, List.setIfInBounds_toArray, List.set_cons_zero, List.set_cons_succ]
  refine hoist_take (i := 20) (v := ?_) rfl (by kernel_rfl) (by kernel_rfl) (by kernel_rfl) (by kernel_rfl) (fun _ _ _ h => h) XhS6.out (Or.inl ⟨by kernel_rfl, ?_⟩) ?_
  rotate_left
  · intro Wq hWq
    obtain ⟨x0, x1, x2, x3⟩ := hWq
    go_simp
    try simp only [hbb, hee, hce]
    try with_reducible rfl
  try simp only [Act.put, List.getElem_toArray, List.getElem_cons_zero, List.getElem_cons_succ, List.setIfInBounds_toArray, List.set_cons_zero, List.set_cons_succ]
  refine hoist_take (i := 21) (v := ?_) rfl (by kernel_rfl) (by kernel_rfl) (by kernel_rfl) (by kernel_rfl) (fun _ _ _ h => h) XhS6.out (Or.inl ⟨by kernel_rfl, ?_⟩) ?_
  rotate_left
  · intro Wq hWq
    obtain ⟨x0, x1, x2, x3⟩ := hWq
    go_simp
    try simp only [hbb, hee, hce]
    try with_reducible rfl
  try simp only [Act.put, List.getElem_toArray, List.getElem_cons_zero, List.getElem_cons_succ, List.setIfInBounds_toArray, List.set_cons_zero, List.set_cons_succ]
  refine hoist_take (i := 22) (v := ?_) rfl (by kernel_rfl) (by kernel_rfl) (by kernel_rfl) (by kernel_rfl) (fun _ _ _ h => h) XhS6.out (Or.inl ⟨by kernel_rfl, ?_⟩) ?_
  rotate_left
  · intro Wq hWq
    obtain ⟨x0, x1, x2, x3⟩ := hWq
    go_simp
    try simp only [hbb, hee, hce]
    try with_reducible rfl
  try simp only [Act.put, List.getElem_toArray, List.getElem_cons_zero, List.getElem_cons_succ, List.setIfInBounds_toArray, List.set_cons_zero, List.set_cons_succ]
  refine hoist_take (i := 24) (v := ?_) rfl (by kernel_rfl) (by kernel_rfl) (by kernel_rfl) (by kernel_rfl) (fun _ _ _ h => h) XhS6.out (Or.inl ⟨by kernel_rfl, ?_⟩) ?_
  rotate_left
  · intro Wq hWq
    obtain ⟨x0, x1, x2, x3⟩ := hWq
    go_simp
    try simp only [hbb, hee, hce]
    try with_reducible rfl
  try simp only [Act.put, List.getElem_toArray, List.getElem_cons_zero, List.getElem_cons_succ, List.setIfInBounds_toArray, List.set_cons_zero, List.set_cons_succ]
  refine hoist_one (i := 23) rfl (by kernel_rfl) (fun K hK => ?_)
  have XhK4 := Lib.hid hK
  clear hK
  go_wp2_with fail
  refine (lawNum_any er w3).mono ?_
  rintro e w9 ⟨rfl, hw9⟩; have hw9 := hw9.symm; subst hw9
  go_wp2_with fail
  refine XhK4.out _ _ (fun _ => XhSk4.out _ Xq3'.out) ?_
  refine hoist_take (i := 25) (v := ?_) rfl (by kernel_rfl) (by kernel_rfl) (by kernel_rfl) (by kernel_rfl) (fun _ _ _ h => h) XhS6.out (Or.inl ⟨by kernel_rfl, ?_⟩) ?_
  rotate_left
  · intro Wq hWq
    obtain ⟨x0, x1, x2, x3⟩ := hWq
    go_simp
    try simp only [hbb, hee, hce]
    try with_reducible rfl
  try simp only [Act.put, List.getElem_toArray, List.getElem_cons_zero, List.getElem_cons_succ, List.setIfInBounds_toArray, List.set_cons_zero, List.set_cons_succ]
  refine hoist_take (i := 26) (v := ?_) rfl (by kernel_rfl) (by kernel_rfl) (by kernel_rfl) (by kernel_rfl) (fun _ _ _ h => h) XhS6.out (Or.inl ⟨by kernel_rfl, ?_⟩) ?_
  rotate_left
  · intro Wq hWq
    obtain ⟨x0, x1, x2, x3⟩ := hWq
    go_simp
    try simp only [hbb, hee, hce]
    try with_reducible rfl
  try simp only [Act.put, List.getElem_toArray, List.getElem_cons_zero, List.getElem_cons_succ, List.setIfInBounds_toArray, List.set_cons_zero, List.set_cons_succ]
  refine hoist_take (i := 27) (v := ?_) rfl (by kernel_rfl) (by kernel_rfl) (by kernel_rfl) (by kernel_rfl) (fun _ _ _ h => h) XhS6.out (Or.inl ⟨by kernel_rfl, ?_⟩) ?_
  rotate_left
  · intro Wq hWq
    obtain ⟨x0, x1, x2, x3⟩ := hWq
    go_simp
    try simp only [hbb, hee, hce]
    try with_reducible rfl
  try simp only [Act.put, List.getElem_toArray, List.getElem_cons_zero, List.getElem_cons_succ, List.setIfInBounds_toArray, List.set_cons_zero, List.set_cons_succ]
  refine hoist_one (i := 28) rfl (by kernel_rfl) (fun K hK => ?_)
  have XhK5 := Lib.hid hK
  clear hK
  go_wp2_with fail
  refine (known_any w3).mono ?_
  rintro e w4 ⟨rfl, q4⟩
  have q4' : Keep (fun b => b < W4.heap.size) W4 w4 := Xq3'.out.trans (q4.mono fun b _ h => by have := Xq3'.out.size; omega)
  have hS7 := XhSk4.out _ q4'
  clear q4
  have Xq4' := Lib.hid q4'
  have XhS7 := Lib.hid hS7
  clear q4' hS7
  go_wp2_with fail
  refine XhK5.out _ _ (fun _ => XhSk4.out _ Xq4'.out) ?_
  refine hoist_take (i := 29) (v := ?_) rfl (by kernel_rfl) (by kernel_rfl) (by kernel_rfl) (by kernel_rfl) (fun _ _ _ h => h) XhS7.out (Or.inl ⟨by kernel_rfl, ?_⟩) ?_
  rotate_left
  · intro Wq hWq
    obtain ⟨x0, x1, x2, x3⟩ := hWq
    go_simp
    try simp only [hbb]
    try with_reducible rfl
  try simp only [Act.put, List.getElem_toArray, List.getElem_cons_zero, List.getElem_cons_succ, List.setIfInBounds_toArray, List.set_cons_zero, List.set_cons_succ]
  refine hoist_one (i := 30) rfl (by kernel_rfl) (fun K hK => ?_)
  have XhK6 := Lib.hid hK
  clear hK
  go_wp2_with fail
  refine XhK6.out _ _ (fun h => by simp at h) ?_
  refine hoist_done (by kernel_rfl) ?_
  go_wp2_with fail
  go_ret
  exact ⟨rfl, Xback4.out _ Xq4'.out⟩
end Go.Proofs
