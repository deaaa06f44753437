/- Layer 16 (plan): Least, the program's. -/
import Derived.Test.YtichfebfcapnhaaProg
import Derived.Test.YtichfebfcapnhaaPqB
import Derived.Test.YtichfebfcapnhaaPnX
namespace Go.Proofs
open Go.RowKit Go.Ink Go.Flt
set_option linter.unusedVariables false
set_option linter.unusedSimpArgs false
attribute [local go_sem] Oper.semAt_some
attribute [local go_sem] run_store_float

def bestD (r : RuleD) (l : List SizeD) : BestD := dfs r.body l r.body.length (List.replicate r.body.length false) 4607182418800017408 0 [] none
def leastD (r : RuleD) (l : List SizeD) : PlanD × Nat × Int :=
  if 6 < r.body.length then (noPlan, 0, 2) else if askedD r l false ≠ 0 then (noPlan, 0, askedD r l false) else (⟨r, stpB (bestD r l)⟩, lstB (bestD r l), 0)

set_option maxRecDepth 100000 in
set_option maxHeartbeats 4000000 in
theorem least_any (n : Nat) (r : RuleD) (sh sb : Value) (l : List SizeD) (sv : Value) (w : World) (hr : RuleIn n w sh sb r) (hl : SizesIn n w sv l) (hn : n ≤ w.heap.size) :
    Calls Try.prog 29 #[ruleV r sh sb, sv] w fun e w' => ∃ vh vb vs, e = .returned (.tuple #[planV (leastD r l).1 vh vb vs, .float .f64 (leastD r l).2.1, .int .i64 (leastD r l).2.2]) ∧ PlanOwn w.heap.size w' vh vb vs (leastD r l).1 ∧ Keep (fun b => b < w.heap.size) w w' := by
  have hM : leastD r l = if 6 < r.body.length then (noPlan, 0, 2) else if askedD r l false ≠ 0 then (noPlan, 0, askedD r l false) else (⟨r, stpB (bestD r l)⟩, lstB (bestD r l), 0) := rfl
  have hB : bestD r l = dfs r.body l r.body.length (List.replicate r.body.length false) 4607182418800017408 0 [] none := rfl
  have hasked := fun W (hK : Keep (fun b => b < w.heap.size) w W) => asked_any n r sh sb l sv W (hr.keep (hK.mono fun b _ h => by omega)) (hl.keep (hK.mono fun b _ h => by omega)) (by have := hK.size; omega)
  have hcopied := fun W (hK : Keep (fun b => b < w.heap.size) w W) => copied_any n r sh sb W (hr.keep (hK.mono fun b _ h => by omega)) (by have := hK.size; omega)
  obtain ⟨hh, hb⟩ := id hr
  obtain ⟨⟨pr, args⟩, body⟩ := r
  unfold ruleV at hasked hcopied ⊢
  simp only at hh hb hasked hcopied ⊢
  obtain ⟨aa, ca, rfl, hla, -, -⟩ := id hh
  obtain ⟨ab, cb, rfl, hlb, hcb, heb⟩ := id hb
  obtain ⟨asl, csl, rfl, hls, -, -⟩ := id hl
  obtain ⟨N, hN⟩ : ∃ N, w.heap.size = N := ⟨_, rfl⟩
  have hnN : n ≤ N := by omega
  clear hh hb heb
  have XhM := Lib.hid hM
  have XhB := Lib.hid hB
  have Xhasked := Lib.hid hasked
  have Xhcopied := Lib.hid hcopied
  have Xhl := Lib.hid hl
  have XhN := Lib.hid hN
  have Xhr := Lib.hid hr
  clear hM hB hasked hcopied hl hN hr
  go_enter Try.func29, Try.ntmps29
  go_upto_region 1 with fail
  refine wp_abs (fun W => Keep (fun b => b < w.heap.size) w W ∧ W.heap.size = w.heap.size + 1 + 1 + 1 ∧ W.heap[w.heap.size]? = some (.cells #[.string pr, .slice aa args.length ca, .slice ab body.length cb] 28 (0, 0)) ∧ W.heap[w.heap.size + 1]? = some (.cells #[.slice asl l.length csl] 29 (0, 0)) ∧
    W.heap[w.heap.size + 1 + 1]? = some (.cells #[.string ⟨#[]⟩, .slice none 0 0, .slice none 0 0, .slice none 0 0] 34 (0, 0))) ⟨((Keep.alloc _ _ _).trans (Keep.alloc _ _ _)).trans (Keep.alloc _ _ _), by simp, by simp only [alloc_get, World.size_alloc]; simp; omega, by simp only [alloc_get, World.size_alloc]; simp, by simp only [alloc_get, World.size_alloc]; simp⟩ ?_
  rintro W0 ⟨k0, z0, a1, a2, a3⟩
  rw [XhN.out] at k0 z0 a1 a2 a3 ⊢
  have c0 := cells_of_block a1 0 _ rfl
  have c1 := cells_of_block a1 1 _ rfl
  have c2 := cells_of_block a1 2 _ rfl
  have d0 := cells_of_block a2 0 _ rfl
  have r0 := cells_of_block a3 0 _ rfl
  have r1 := cells_of_block a3 1 _ rfl
  have r2 := cells_of_block a3 2 _ rfl
  have r3 := cells_of_block a3 3 _ rfl
  have f0 := box_free a3 0
  have f1 := box_free a3 1
  have f2 := box_free a3 2
  have f3 := box_free a3 3
  simp only [Nat.zero_add] at c0 c1 c2 d0 r0 r1 r2 r3
  have hNl : N < W0.heap.size := by omega
  have hNl1 : N + 1 < W0.heap.size := by omega
  have hNl2 : N + 1 + 1 < W0.heap.size := by omega
  have Xk0 := Lib.hid k0
  have Xa1 := Lib.hid a1
  have Xa2 := Lib.hid a2
  have Xa3 := Lib.hid a3
  clear k0 a1 a2 a3
  by_cases h6 : 6 < body.length
  · have h61 : (6 : Int) < body.length := by omega
    have hM2 : leastD ⟨⟨pr, args⟩, body⟩ l = (noPlan, 0, 2) := by rw [XhM.out, if_pos h6]
    clear h6
    have XhM2 := Lib.hid hM2
    clear hM2
    go_wp2_with fail
    refine bodyPost_ret (v := .tuple #[.agg #[.string ⟨#[]⟩, .slice none 0 0, .slice none 0 0, .slice none 0 0], .float .f64 0, .int .i64 2]) (by simp [results, Try.results29, go_sem, r0, r1, r2, r3, hNl2]) rfl ?_
    rw [XhM2.out]
    have kS : Keep (fun b => b ≠ N + 1 + 1) W0 ((((W0.setCell ⟨N + 1 + 1, 0, none⟩ (.string ⟨#[]⟩)).setCell ⟨N + 1 + 1, 1, none⟩ (.slice none 0 0)).setCell ⟨N + 1 + 1, 2, none⟩ (.slice none 0 0)).setCell ⟨N + 1 + 1, 3, none⟩ (.slice none 0 0)) :=
      (((Keep.setCell _ _ _ (by simp)).trans (Keep.setCell _ _ _ (by simp))).trans (Keep.setCell _ _ _ (by simp))).trans (Keep.setCell _ _ _ (by simp))
    exact ⟨_, _, _, rfl, noPlan_own _ _, (Xk0.out.trans (kS.mono fun b _ h => by omega)).mono fun b _ h => by have := XhN.out; omega⟩
  · have h61 : ¬ (6 : Int) < body.length := by omega
    have h6l : body.length ≤ 6 := by omega
    have hk1 := Xhasked.out W0 (Xk0.out.mono fun b _ h => by have := XhN.out; omega)
    obtain ⟨ea, hea⟩ : ∃ e, askedD ⟨⟨pr, args⟩, body⟩ l false = e := ⟨_, rfl⟩
    rw [hea] at hk1
    by_cases he0 : ea = 0
    · subst he0
      have hM2 : leastD ⟨⟨pr, args⟩, body⟩ l = (⟨⟨⟨pr, args⟩, body⟩, stpB (bestD ⟨⟨pr, args⟩, body⟩ l)⟩, lstB (bestD ⟨⟨pr, args⟩, body⟩ l), 0) := by
        rw [XhM.out, if_neg (show ¬ 6 < (⟨⟨pr, args⟩, body⟩ : RuleD).body.length from h6), hea]; rfl
      have hgood : formedB ⟨⟨pr, args⟩, body⟩ = true ∧ usableB l = true ∧ safeP ⟨⟨pr, args⟩, body⟩ = true := by
        unfold askedD at hea
        cases h1 : formedB ⟨⟨pr, args⟩, body⟩ <;> cases h2 : usableB l <;> cases h3 : safeP ⟨⟨pr, args⟩, body⟩ <;> rw [h1, h2, h3] at hea <;> first | exact ⟨rfl, rfl, rfl⟩ | (exfalso; revert hea; decide)
      clear hea h6
      have XhM2 := Lib.hid hM2
      have Xhk1 := Lib.hid hk1
      have Xhgood := Lib.hid hgood
      clear hM2 hk1 hgood
      go_wp2_with fail
      refine Xhk1.out.mono ?_
      rintro e W1 ⟨rfl, k1⟩
      have hz1 := k1.size
      have e0 := k1.cell c0 hNl
      have e1 := k1.cell c1 hNl
      have e2 := k1.cell c2 hNl
      have hl1 : N < W1.heap.size := by omega
      have kw1 : Keep (fun b => b < w.heap.size) w W1 := (Xk0.out.trans (k1.mono fun b _ h => by omega)).mono fun b _ h => by have := XhN.out; omega
      have hcp := Xhcopied.out W1 kw1
      clear c0 c1 c2 d0 r0 r1 r2 r3 f0 f1 f2 f3
      have Xk1 := Lib.hid k1
      have Xhcp := Lib.hid hcp
      have Xkw1 := Lib.hid kw1
      clear k1 hcp kw1
      go_wp2_with fail
      refine Xhcp.out.mono ?_
      rintro e W2 ⟨vh, vb, rfl, ho, k2⟩
      have hz2 := k2.size
      obtain ⟨avh, cvh, rfl⟩ := own_form ho.1
      obtain ⟨avb, cvb, rfl⟩ : ∃ a c, vb = .slice a body.length c := by
        obtain ⟨ps, hps, h, _⟩ := ho.2
        exact own_form h
      have b1 := k2.heap (Xk1.out.heap Xa1.out hNl) hl1
      have b2 := k2.heap (Xk1.out.heap Xa2.out hNl1) (show N + 1 < W1.heap.size by omega)
      have b3 := k2.heap (Xk1.out.heap Xa3.out hNl2) (show N + 1 + 1 < W1.heap.size by omega)
      have g2 := cells_of_block b1 2 _ rfl
      simp only [Nat.zero_add] at g2
      have hl2 : N < W2.heap.size := by omega
      have hmk := fun u => run_makeBools body.length hlb u
      clear e0 e1 e2
      have Xho := Lib.hid ho
      have Xk2 := Lib.hid k2
      have Xb1 := Lib.hid b1
      have Xb2 := Lib.hid b2
      have Xb3 := Lib.hid b3
      clear ho k2 b1 b2 b3
      go_upto_region 12 with fail
      refine wp_abs (fun W => Keep (fun b => b < W2.heap.size) W2 W ∧ W.heap.size = W2.heap.size + 1 + 1 + 1 + 1 + 1 + 1 ∧
        W.heap[W2.heap.size]? = some (.cells #[.string pr, .slice avh args.length cvh, .slice avb body.length cvb, .slice none 0 0] 34 (0, 0)) ∧
        W.heap[W2.heap.size + 1]? = some (.cells #[.float .f64 13830554455654793216] 49 (0, 0)) ∧
        W.heap[W2.heap.size + 1 + 1]? = some (.cells (madeCells #[.bool false] body.length) 4 (0, 0)) ∧
        W.heap[W2.heap.size + 1 + 1 + 1]? = some (.cells #[.slice (some ⟨W2.heap.size + 1 + 1, 0, none⟩) body.length body.length] 87 (0, 0)) ∧
        W.heap[W2.heap.size + 1 + 1 + 1 + 1]? = some (.cells #[.slice none 0 0] 32 (0, 0)) ∧
        W.heap[W2.heap.size + 1 + 1 + 1 + 1 + 1]? = some (.cells #[.func (.func 59) #[] #[.pointer (some ⟨W2.heap.size + 1 + 1 + 1 + 1, 0, none⟩), .pointer (some ⟨N, 0, none⟩), .pointer (some ⟨W2.heap.size + 1, 0, none⟩), .pointer (some ⟨W2.heap.size, 0, none⟩), .pointer (some ⟨W2.heap.size + 1 + 1 + 1, 0, none⟩), .pointer (some ⟨N + 1, 0, none⟩), .pointer (some ⟨W2.heap.size + 1 + 1 + 1 + 1 + 1, 0, none⟩)]] 108 (0, 0))) ?_ ?_
      · exact ⟨(((((Keep.alloc _ _ _).trans (Keep.alloc _ _ _)).trans (Keep.alloc _ _ _)).trans (Keep.alloc _ _ _)).trans (Keep.alloc _ _ _)).trans (Keep.alloc _ _ _), by simp, by simp only [alloc_get, World.size_alloc]; simp; try (repeat rw [if_neg (by omega)]), by simp only [alloc_get, World.size_alloc]; simp; try (repeat rw [if_neg (by omega)]), by simp only [alloc_get, World.size_alloc]; simp; try (repeat rw [if_neg (by omega)]), by simp only [alloc_get, World.size_alloc]; simp; try (repeat rw [if_neg (by omega)]), by simp only [alloc_get, World.size_alloc]; simp, by simp only [alloc_get, World.size_alloc]; simp⟩
      rintro W3 ⟨k3, z3, q1, q2, q3, q4, q5, q6⟩
      have x0 := cells_of_block q6 0 _ rfl
      simp only [Nat.zero_add] at x0
      have lX := heap_lt q6
      have hrN : W3.heap[N]? = some (.cells #[.string pr, .slice aa args.length ca, .slice ab body.length cb] 28 (0, 0)) := k3.heap Xb1.out (by omega)
      have hsN : W3.heap[N + 1]? = some (.cells #[.slice asl l.length csl] 29 (0, 0)) := k3.heap Xb2.out (by omega)
      have hpN : W3.heap[N + 1 + 1]? = some (.cells #[.string ⟨#[]⟩, .slice none 0 0, .slice none 0 0, .slice none 0 0] 34 (0, 0)) := k3.heap Xb3.out (by omega)
      have kw3 : Keep (fun b => b < w.heap.size) w W3 := (Xkw1.out.trans (Xk2.out.mono fun b _ h => by have := XhN.out; omega)).trans (k3.mono fun b _ h => by have := XhN.out; omega)
      rw [made_eq] at q3
      have hnx := next_any n (W2.heap.size + 1 + 1 + 1 + 1 + 1 + 1) (W2.heap.size + 1 + 1 + 1 + 1) N (W2.heap.size + 1) W2.heap.size (W2.heap.size + 1 + 1) (W2.heap.size + 1 + 1 + 1) (N + 1) (W2.heap.size + 1 + 1 + 1 + 1 + 1) ⟨⟨pr, args⟩, body⟩ (.slice aa args.length ca) (.slice ab body.length cb) (.slice asl l.length csl) l pr (.slice avh args.length cvh) (.slice avb body.length cvb) Xhgood.out.1 Xhgood.out.2.1 h6l
        hnN (by omega) (by omega) (by omega) (by omega) (by omega) (by omega) (by omega) (by omega) body.length [] (List.replicate body.length false) 4607182418800017408 0 none (.slice none 0 0) (.slice none 0 0) W3 (by simp) (by simp) (by decide) (by exact Nat.zero_le _) (fun b s e => by cases e) ⟨by simp, fun s hs => by cases hs⟩
        ⟨hrN, hsN, q4, q6⟩ ⟨q5, q2, q1, q3, StepsOwn.nil _ _, StepsOwn.nil _ _, fun b hb => by cases hb⟩ (Xhr.out.keep (kw3.mono fun b _ h => by have := XhN.out; omega)) (Xhl.out.keep (kw3.mono fun b _ h => by have := XhN.out; omega)) (by omega)
      rw [show dfs (⟨⟨pr, args⟩, body⟩ : RuleD).body l body.length (List.replicate body.length false) 4607182418800017408 0 [] none = bestD ⟨⟨pr, args⟩, body⟩ l from XhB.out.symm] at hnx
      clear hrN hsN q1 q2 q3 q4 q5 q6 g2
      have Xhnx := Lib.hid hnx
      have Xk3 := Lib.hid k3
      have XhpN := Lib.hid hpN
      have Xkw3 := Lib.hid kw3
      clear hnx k3 hpN kw3
      go_wp2_with fail
      refine Xhnx.out.mono ?_
      rintro e W4 ⟨rfl, stv, bsv, hv4, -, k4⟩
      have hz4 := k4.size
      have lN2 : N + 1 + 1 < W4.heap.size := by omega
      have hp4 := k4.heap XhpN.out ⟨by omega, by omega, by omega, by omega, by omega, fun e => by cases e⟩
      obtain ⟨bst, hbst⟩ : ∃ b, bestD ⟨⟨pr, args⟩, body⟩ l = b := ⟨_, rfl⟩
      rw [hbst] at hv4
      obtain ⟨absv, cbsv, rfl⟩ := hv4.bown.form
      have p0 := cells_of_block hv4.plan 0 _ rfl
      have p1 := cells_of_block hv4.plan 1 _ rfl
      have p2 := cells_of_block hv4.plan 2 _ rfl
      have p3 := cells_of_block hv4.plan 3 _ rfl
      have l0 := cells_of_block hv4.least 0 _ rfl
      simp only [Nat.zero_add] at p0 p1 p2 p3 l0
      have lP4 := heap_lt hv4.plan
      have lL4 := heap_lt hv4.least
      have r0 := cells_of_block hp4 0 _ rfl
      have r1 := cells_of_block hp4 1 _ rfl
      have r2 := cells_of_block hp4 2 _ rfl
      have r3 := cells_of_block hp4 3 _ rfl
      have f0 := box_free hp4 0
      have f1 := box_free hp4 1
      have f2 := box_free hp4 2
      have f3 := box_free hp4 3
      simp only [Nat.zero_add] at r0 r1 r2 r3
      have kw4 : Keep (fun b => b < w.heap.size) w W4 := Xkw3.out.trans (k4.mono fun b _ h => by have := XhN.out; exact ⟨by omega, by omega, by omega, by omega, by omega, fun e => by cases e⟩)
      have ho4 := Xho.out.keep (Xk3.out.trans (k4.mono fun b _ (h : b < W2.heap.size) => ⟨by omega, by omega, by omega, by omega, by omega, fun e => by cases e⟩)) (fun b _ h => h)
      clear k4 x0
      have Xhv4 := Lib.hid hv4
      have Xhbst := Lib.hid hbst
      have Xkw4 := Lib.hid kw4
      have Xho4 := Lib.hid ho4
      have Xhp4 := Lib.hid hp4
      clear hv4 hbst kw4 ho4 hp4
      obtain ⟨lv, hlv⟩ : ∃ lv, lstB bst = lv := ⟨_, rfl⟩
      rw [hlv] at l0
      go_upto_region 13 with fail
      go_region
      refine post_abs (fun W => Keep (fun b => b ≠ N + 1 + 1) W4 W ∧ W.heap[N + 1 + 1]? = some (.cells #[.string pr, .slice avh args.length cvh, .slice avb body.length cvb, .slice absv (stpB bst).length cbsv] 34 (0, 0))) ?_ ?_
      · exact ⟨(((((Keep.setCell _ _ _ (by simp)).trans (Keep.setCell _ _ _ (by simp))).trans (Keep.setCell _ _ _ (by simp))).trans (Keep.setCell _ _ _ (by simp))).trans (Keep.drew _ _)), set_at 3 _ (set_at 2 _ (set_at 1 _ (set_at 0 _ Xhp4.out)))⟩
      rintro W5 ⟨k5, q5⟩
      have s0 := cells_of_block q5 0 _ rfl
      have s1 := cells_of_block q5 1 _ rfl
      have s2 := cells_of_block q5 2 _ rfl
      have s3 := cells_of_block q5 3 _ rfl
      simp only [Nat.zero_add] at s0 s1 s2 s3
      have lN5 := heap_lt q5
      clear q5 p0 p1 p2 p3 l0
      have Xk5 := Lib.hid k5
      clear k5
      go_wp2_with fail
      refine bodyPost_ret (v := .tuple #[.agg #[.string pr, .slice avh args.length cvh, .slice avb body.length cvb, .slice absv (stpB bst).length cbsv], .float .f64 lv, .int .i64 0]) (by simp [results, Try.results29, go_sem, s0, s1, s2, s3, lN5]) rfl ?_
      rw [XhM2.out, Xhbst.out, hlv]
      have kNe : ∀ b, b < w.heap.size → b ≠ N + 1 + 1 := fun b h => by have := XhN.out; omega
      refine ⟨_, _, _, rfl, ⟨(Xho4.out.keep Xk5.out fun b h _ => by omega).mono (by have := XhN.out; omega), (Xhv4.out.bown.keep Xk5.out fun b cs t h _ _ => by omega).mono (by have := XhN.out; omega)⟩, Xkw4.out.trans (Xk5.out.mono fun b _ h => kNe b h)⟩
    · have hM2 : leastD ⟨⟨pr, args⟩, body⟩ l = (noPlan, 0, ea) := by
        rw [XhM.out, if_neg (show ¬ 6 < (⟨⟨pr, args⟩, body⟩ : RuleD).body.length from h6), hea, if_pos he0]
      have hne : (ea != 0) = true := bne_iff_ne.2 he0
      clear hea he0 h6
      have XhM2 := Lib.hid hM2
      have Xhk1 := Lib.hid hk1
      clear hM2 hk1
      go_wp2_with fail
      refine Xhk1.out.mono ?_
      rintro e W1 ⟨rfl, k1⟩
      have hz1 := k1.size
      have a3' := k1.heap Xa3.out hNl2
      have s0 := cells_of_block a3' 0 _ rfl
      have s1 := cells_of_block a3' 1 _ rfl
      have s2 := cells_of_block a3' 2 _ rfl
      have s3 := cells_of_block a3' 3 _ rfl
      have t0 := box_free a3' 0
      have t1 := box_free a3' 1
      have t2 := box_free a3' 2
      have t3 := box_free a3' 3
      simp only [Nat.zero_add] at s0 s1 s2 s3
      have hNl3 : N + 1 + 1 < W1.heap.size := by omega
      clear a3'
      have Xk1 := Lib.hid k1
      clear k1
      go_wp2_with fail
      refine bodyPost_ret (v := .tuple #[.agg #[.string ⟨#[]⟩, .slice none 0 0, .slice none 0 0, .slice none 0 0], .float .f64 0, .int .i64 ea]) (by simp [results, Try.results29, go_sem, s0, s1, s2, s3, hNl3]) rfl ?_
      rw [XhM2.out]
      have kS : Keep (fun b => b ≠ N + 1 + 1) W1 ((((W1.setCell ⟨N + 1 + 1, 0, none⟩ (.string ⟨#[]⟩)).setCell ⟨N + 1 + 1, 1, none⟩ (.slice none 0 0)).setCell ⟨N + 1 + 1, 2, none⟩ (.slice none 0 0)).setCell ⟨N + 1 + 1, 3, none⟩ (.slice none 0 0)) :=
        (((Keep.setCell _ _ _ (by simp)).trans (Keep.setCell _ _ _ (by simp))).trans (Keep.setCell _ _ _ (by simp))).trans (Keep.setCell _ _ _ (by simp))
      exact ⟨_, _, _, rfl, noPlan_own _ _, ((Xk0.out.trans (Xk1.out.mono fun b _ h => by omega)).trans (kS.mono fun b _ h => by omega)).mono fun b _ h => by have := XhN.out; omega⟩
end Go.Proofs
