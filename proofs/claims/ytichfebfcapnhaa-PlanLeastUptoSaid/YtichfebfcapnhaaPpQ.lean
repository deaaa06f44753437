/- Layer 16 (plan): the document's Twin: a rule in new memory. -/
import Derived.Test.YtichfebfcapnhaaProg
import Derived.Test.YtichfebfcapnhaaPnTToPnU
import Derived.Test.YtichfebfcapnhaaPnX
import Derived.Test.YtichfebfcapnhaaPnRToPnS
import Derived.Test.YtichfebfcapnhaaOwnToRowC
namespace Go.Proofs
open Go.RowKit Go.Ink
set_option linter.unusedVariables false
set_option linter.unusedSimpArgs false
attribute [local go_sem] Oper.semAt_some

theorem BodyOwn.nil (base : Nat) (tl tt : TypeId) (w : World) : BodyOwn base tl tt w (.slice none 0 0) [] := ⟨[], rfl, World.ownsRow_nil _ _ _ _, by simp⟩
theorem BodyOwn.form {base : Nat} {tl tt : TypeId} {w : World} {v : Value} {ls : List LitD} (h : BodyOwn base tl tt w v ls) : ∃ a c, v = .slice a ls.length c := by
  obtain ⟨ps, _, h, _⟩ := h
  exact own_form h
theorem BodyOwn.keepT {base : Nat} {tl tt : TypeId} {w w' : World} {v : Value} {ls : List LitD} {C : Nat → Prop} (h : BodyOwn base tl tt w v ls) (hK : Keep C w w') (hC : ∀ b cs t, base ≤ b → w.heap[b]? = some (.cells cs t (0, 0)) → t = tl ∨ t = tt → C b) : BodyOwn base tl tt w' v ls := by
  obtain ⟨ps, hps, h2, h3⟩ := h
  refine ⟨ps, hps, own_kept h2 hK (fun b hb => ?_), fun p hp => own_kept (h3 p hp) hK (fun b hb => ?_)⟩
  · obtain ⟨cs, ht⟩ := own_typed h2 hb
    exact hC b cs _ (World.ownsRow.lt h2 b hb).1 ht (.inl rfl)
  · obtain ⟨cs, ht⟩ := own_typed (h3 p hp) hb
    exact hC b cs _ (World.ownsRow.lt (h3 p hp) b hb).1 ht (.inr rfl)
/-- a literal more -/
theorem BodyOwn.snoc {base : Nat} {w : World} {v : Value} {ls : List LitD} (h : BodyOwn base 78 76 w v ls) (L : LitD) (sa : Value) (hsa : w.ownsRow base 76 2 sa L.atom.args.length (termCells L.atom.args)) (hl : ls.length ≤ 1073741824) (hbase : base ≤ w.heap.size) :
    ∃ v' w', (Builtin.append_ #[26, 26] 26 #[v, .slice (some ⟨w.heap.size, 0, none⟩) 1 1]).run Try.prog (w.alloc (.cells (litCells L sa).toArray 78)) = .ok v' w' ∧ BodyOwn base 78 76 w' v' (ls ++ [L]) ∧ Keep (fun b => some b ≠ v.ownBlock) w w' := by
  obtain ⟨ps, hps, ho, hall⟩ := h
  obtain ⟨ab, cb, hvb⟩ := own_form hsa
  obtain ⟨v', w', hr, ho2, hk, g, cap, hv, hg, hl2⟩ := app1 (P := Try.prog) el_lits 26 ho (litCells L sa) rfl (by rw [hvb]; simp [litCells, Value.oneCell']) (by omega) hbase
  refine ⟨v', w', hr, ⟨ps ++ [(L, sa)], by rw [List.map_append, hps]; rfl, by rw [List.length_append, List.flatMap_append]; simpa [litC] using ho2, fun q hm => ?_⟩, hk⟩
  have hoth : ∀ {e sz : Nat} {u : Value} {m : Nat} {xs : List Value}, w.ownsRow base e sz u m xs → e ≠ 78 → w'.ownsRow base e sz u m xs := fun ho3 he => own_kept ho3 hk (fun b hb e2 => by
    obtain ⟨c1, t1⟩ := own_typed ho3 hb
    obtain ⟨c2, t2⟩ := own_typed ho e2.symm
    rw [t1] at t2
    cases t2
    exact he rfl)
  rcases List.mem_append.1 hm with hm | hm
  · exact hoth (hall q hm) (by decide)
  · simp only [List.mem_singleton] at hm
    subst hm
    exact hoth hsa (by decide)

set_option maxRecDepth 100000 in
set_option maxHeartbeats 2000000 in
theorem twin_any (n : Nat) (r : RuleD) (sh sb : Value) (w : World) (hr : RuleIn n w sh sb r) (hn : n ≤ w.heap.size) :
    Calls Try.prog 10 #[ruleV r sh sb] w fun e w' => ∃ vh vb, e = .returned (ruleV r vh vb) ∧ RuleOwn w.heap.size 78 76 w' vh vb r ∧ Keep (fun b => b < w.heap.size) w w' := by
  obtain ⟨⟨pr, args⟩, body⟩ := r
  obtain ⟨hh, hb⟩ := id hr
  unfold ruleV
  simp only at hh hb ⊢
  obtain ⟨aa, ca, rfl, hla, -, -⟩ := id hh
  obtain ⟨ab, cb, rfl, hlb, hcb, heb⟩ := id hb
  obtain ⟨hs1, hs2⟩ := terms_src hh
  obtain ⟨N, hN⟩ : ∃ N, w.heap.size = N := ⟨_, rfl⟩
  have hnN : n ≤ N := by omega
  have hsrc := fun W (hK : Keep (fun b => b < w.heap.size) w W) (b : Addr) (hb : aa = some b) j u (hj : (termCells args)[j]? = some u) => hK.cell (hs1 b hb j u hj) (World.block_lt_of_cell? w _ (hs1 b hb j u hj))
  clear hh hb hr
  have Xheb := Lib.hid heb
  have Xhsrc := Lib.hid hsrc
  have Xhs2 := Lib.hid hs2
  have XhN := Lib.hid hN
  clear heb hsrc hs2 hN
  go_enter Try.func10, Try.ntmps10
  go_upto_region 1 with fail
  refine wp_abs (fun W => Keep (fun b => b < w.heap.size) w W ∧ W.heap.size = w.heap.size + 1 + 1 ∧ W.heap[w.heap.size]? = some (.cells #[.string pr, .slice aa args.length ca, .slice ab body.length cb] 28 (0, 0)) ∧
    W.heap[w.heap.size + 1]? = some (.cells #[.string ⟨#[]⟩, .slice none 0 0, .slice none 0 0] 28 (0, 0))) ⟨(Keep.alloc _ _ _).trans (Keep.alloc _ _ _), by simp, by simp only [alloc_get, World.size_alloc]; simp, by simp only [alloc_get, World.size_alloc]; simp⟩ ?_
  rintro W0 ⟨k0, z0, a1, a2⟩
  have k0' := k0
  rw [XhN.out] at k0 z0 a1 a2 ⊢
  have c0 := cells_of_block a1 0 _ rfl
  have c1 := cells_of_block a1 1 _ rfl
  simp only [Nat.zero_add] at c0 c1
  have hNl : N < W0.heap.size := by omega
  have hNl1 : N + 1 < W0.heap.size := by omega
  have hS0 : (fun W : World => W.cell? ⟨N, 0, none⟩ = some (.string pr) ∧ W.cell? ⟨N, 1, none⟩ = some (.slice aa args.length ca)) W0.drew := ⟨c0, c1⟩
  have hSk := fun W (hK : Keep (fun b => b < W0.heap.size) W0 W) => (show (fun W : World => W.cell? ⟨N, 0, none⟩ = some (.string pr) ∧ W.cell? ⟨N, 1, none⟩ = some (.slice aa args.length ca)) W from ⟨hK.cell c0 hNl, hK.cell c1 hNl⟩)
  have happ := fun W (hK : Keep (fun b => b < W0.heap.size) W0 W) => appA (P := Try.prog) el_terms 23 (base := W0.heap.size) (World.ownsRow_nil W W0.heap.size 76 2) aa args.length ca (termCells args) (termCells_len args)
    (Xhsrc.out W (k0'.trans (hK.mono fun b _ h => by omega))) Xhs2.out (termCells_one args) (by omega) hK.size
  simp only [Nat.zero_add, List.nil_append] at happ
  have hkd : Keep (fun b => b < W0.heap.size) W0 W0.drew := Keep.drew _ _
  clear c0 c1
  have Xk0 := Lib.hid k0
  have Xk0' := Lib.hid k0'
  have Xa1 := Lib.hid a1
  have Xa2 := Lib.hid a2
  have XhS0 := Lib.hid hS0
  have XhSk := Lib.hid hSk
  have Xhapp := Lib.hid happ
  have Xhkd := Lib.hid hkd
  clear k0 k0' a1 a2 hS0 hSk happ hkd
  go_wp2_with fail
  refine region_hoist rfl (fun W : World => W.cell? ⟨N, 0, none⟩ = some (.string pr) ∧ W.cell? ⟨N, 1, none⟩ = some (.slice aa args.length ca)) [10] ?_
  refine hoist_take (i := 0) (v := ?_) rfl (by kernel_rfl) (by kernel_rfl) (by kernel_rfl) (by kernel_rfl) (fun _ _ _ h => h) XhS0.out (Or.inl ⟨by rfl, ?_⟩) ?_
  rotate_left
  · intro Wq hWq
    obtain ⟨x0, x1⟩ := hWq
    go_simp
    try with_reducible rfl
  try simp only [Act.put, List.getElem_toArray, List.getElem_cons_zero, List.getElem_cons_succ, List.setIfInBounds_toArray, List.set_cons_zero, List.set_cons_succ]
  refine hoist_take (i := 1) (v := ?_) rfl (by kernel_rfl) (by kernel_rfl) (by kernel_rfl) (by kernel_rfl) (fun _ _ _ h => h) XhS0.out (Or.inl ⟨by rfl, ?_⟩) ?_
  rotate_left
  · intro Wq hWq
    obtain ⟨x0, x1⟩ := hWq
    go_simp
    try with_reducible rfl
  try simp only [Act.put, List.getElem_toArray, List.getElem_cons_zero, List.getElem_cons_succ, List.setIfInBounds_toArray, List.set_cons_zero, List.set_cons_succ]
  refine hoist_take (i := 2) (v := ?_) rfl (by kernel_rfl) (by kernel_rfl) (by kernel_rfl) (by kernel_rfl) (fun _ _ _ h => h) XhS0.out (Or.inl ⟨by rfl, ?_⟩) ?_
  rotate_left
  · intro Wq hWq
    obtain ⟨x0, x1⟩ := hWq
    go_simp
    try with_reducible rfl
  try simp only [Act.put, List.getElem_toArray, List.getElem_cons_zero, List.getElem_cons_succ, List.setIfInBounds_toArray, List.set_cons_zero, List.set_cons_succ]
  refine hoist_take (i := 3) (v := ?_) rfl (by kernel_rfl) (by kernel_rfl) (by kernel_rfl) (by kernel_rfl) (fun _ _ _ h => h) XhS0.out (Or.inl ⟨by rfl, ?_⟩) ?_
  rotate_left
  · intro Wq hWq
    obtain ⟨x0, x1⟩ := hWq
    go_simp
    try with_reducible rfl
  try simp only [Act.put, List.getElem_toArray, List.getElem_cons_zero, List.getElem_cons_succ, List.setIfInBounds_toArray, List.set_cons_zero, List.set_cons_succ]
  refine hoist_take (i := 4) (v := ?_) rfl (by kernel_rfl) (by kernel_rfl) (by kernel_rfl) (by kernel_rfl) (fun _ _ _ h => h) XhS0.out (Or.inl ⟨by rfl, ?_⟩) ?_
  rotate_left
  · intro Wq hWq
    obtain ⟨x0, x1⟩ := hWq
    go_simp
    try with_reducible rfl
  try simp only [Act.put, List.getElem_toArray, List.getElem_cons_zero, List.getElem_cons_succ, List.setIfInBounds_toArray, List.set_cons_zero, List.set_cons_succ]
  refine hoist_take (i := 5) (v := ?_) rfl (by kernel_rfl) (by kernel_rfl) (by kernel_rfl) (by kernel_rfl) (fun _ _ _ h => h) XhS0.out (Or.inl ⟨by rfl, ?_⟩) ?_
  rotate_left
  · intro Wq hWq
    obtain ⟨x0, x1⟩ := hWq
    go_simp
    try with_reducible rfl
  try simp only [Act.put, List.getElem_toArray, List.getElem_cons_zero, List.getElem_cons_succ, List.setIfInBounds_toArray, List.set_cons_zero, List.set_cons_succ]
  refine hoist_two (i := 6) (j := 9) rfl rfl (by kernel_rfl) (fun K hK => ?wayA) (fun K hK => ?wayB)
  case' wayA =>
    have XhK0 := Lib.hid hK
    clear hK
    obtain ⟨vh, w1, hr1, ho1, hg1, hk1⟩ := Xhapp.out _ Xhkd.out
    obtain ⟨avh, cvh, rfl⟩ := own_form ho1
    have q1 : Keep (fun b => b < W0.heap.size) W0 w1 := Xhkd.out.trans (hk1.mono fun b _ h e => by
      rcases hg1 b e with h1 | h1
      · simp [Value.ownBlock] at h1
      · simp at h1; omega)
    clear hk1 hg1
    have Xhr1 := Lib.hid hr1
    have Xho1 := Lib.hid ho1
    have Xq1 := Lib.hid q1
    clear hr1 ho1 q1
    refine go_app (v := .slice none 0 0) (u := .slice aa args.length ca) (v' := .slice avh args.length cvh) (w' := w1) rfl _ (.tmp 11) 23 rfl rfl rfl Xhr1.out ?_
    go_wp2_with fail
    refine XhK0.out _ _ (fun _ => XhSk.out _ Xq1.out) ?_
    have XhS1 := Lib.hid (XhSk.out _ Xq1.out)
    refine hoist_take (i := 7) (v := ?_) rfl (by kernel_rfl) (by kernel_rfl) (by kernel_rfl) (by kernel_rfl) (fun _ _ _ h => h) XhS1.out (Or.inl ⟨by rfl, ?_⟩) ?_
    rotate_left
    · intro Wq hWq
      obtain ⟨x0, x1⟩ := hWq
      go_simp
      try with_reducible rfl
    try simp only [Act.put, List.getElem_toArray, List.getElem_cons_zero, List.getElem_cons_succ, List.setIfInBounds_toArray, List.set_cons_zero, List.set_cons_succ]
    refine hoist_take (i := 8) (v := ?_) rfl (by kernel_rfl) (by kernel_rfl) (by kernel_rfl) (by kernel_rfl) (fun _ _ _ h => h) XhS1.out (Or.inl ⟨by rfl, ?_⟩) ?_
    rotate_left
    · intro Wq hWq
      obtain ⟨x0, x1⟩ := hWq
      go_simp
      try with_reducible rfl
    try simp only [Act.put, List.getElem_toArray, List.getElem_cons_zero, List.getElem_cons_succ, List.setIfInBounds_toArray, List.set_cons_zero, List.set_cons_succ]
    refine hoist_one (i := 9) rfl (by kernel_rfl) (fun K hK => ?_)
    have XhK1 := Lib.hid hK
    clear hK
    go_wp2_with fail
    refine XhK1.out _ _ (fun _ => XhSk.out _ (Xq1.out.trans (Keep.alloc _ _ _))) ?_
    refine hoist_one (i := 10) rfl (by kernel_rfl) (fun K hK => ?_)
    have XhK2 := Lib.hid hK
    clear hK
    obtain ⟨B, hB⟩ : ∃ B, w1.heap.size = B := ⟨_, rfl⟩
    go_wp2_with fail
    refine XhK2.out _ _ (fun h => by simp at h) ?_
    refine hoist_done (by kernel_rfl) ?_
    have hz1 := Xq1.out.size
    refine post_abs (fun W => Keep (fun b => b < W0.heap.size) W0 W ∧ W.heap[B]? = some (.cells #[.string pr, .slice avh args.length cvh, .slice none 0 0] 28 (0, 0)) ∧ W0.heap.size ≤ B ∧ W.ownsRow W0.heap.size 76 2 (.slice avh args.length cvh) args.length (termCells args)) ⟨Xq1.out.trans (Keep.alloc _ _ _), by rw [← hB]; exact new_block _ _, by omega, own_kept Xho1.out (Keep.alloc (fun _ => True) _ _) (fun _ _ => trivial)⟩ ?_
    clear XhK0 XhK1 XhK2 XhS1 XhS0 Xhr1 Xho1 Xq1 hB hz1
  case' wayB =>
    have XhK0 := Lib.hid hK
    clear hK
    go_wp2_with fail
    obtain ⟨w1a, hw1a⟩ : ∃ W, (W0.alloc (.cells #[.string ⟨#[]⟩, .slice none 0 0, .slice none 0 0] 28)).drew = W := ⟨_, rfl⟩
    have r1 : (W0.alloc (.cells #[.string ⟨#[]⟩, .slice none 0 0, .slice none 0 0] 28)).drew.heap[W0.heap.size]? = some _ := new_block W0 (.cells #[.string ⟨#[]⟩, .slice none 0 0, .slice none 0 0] 28)
    rw [hw1a] at r1
    have q1a : Keep (fun b => b < W0.heap.size) W0 w1a := by rw [← hw1a]; exact (Keep.alloc _ _ _).trans (Keep.drew _ _)
    obtain ⟨B, hB⟩ : ∃ B, N + 1 + 1 = B := ⟨_, rfl⟩
    have hBW : W0.heap.size = B := by omega
    have hz1a : B + 1 ≤ w1a.heap.size := by rw [← hw1a, ← hBW]; simp
    rw [hw1a, hB]
    rw [hBW] at r1
    refine XhK0.out _ _ (fun _ => XhSk.out _ q1a) ?_
    have Xr1 := Lib.hid r1
    have Xq1a := Lib.hid q1a
    have Xhw1a := Lib.hid hw1a
    clear r1 q1a hw1a
    refine hoist_one (i := 6) rfl (by kernel_rfl) (fun K hK => ?_)
    have XhK1 := Lib.hid hK
    clear hK
    obtain ⟨vh, w1, hr1, ho1, hg1, hk1⟩ := Xhapp.out _ Xq1a.out
    obtain ⟨avh, cvh, rfl⟩ := own_form ho1
    have hvg : ∀ b, Value.ownBlock (.slice avh args.length cvh) = some b → B + 1 ≤ b := fun b e => by
      rcases hg1 b e with h1 | h1
      · simp [Value.ownBlock] at h1
      · omega
    have q1 : Keep (fun b => b < B + 1) w1a w1 := hk1.mono fun b _ h e => by have := hvg b e; omega
    have q2 : Keep (fun b => b < W0.heap.size) W0 w1 := Xq1a.out.trans (q1.mono fun b _ h => by omega)
    have r2 := q1.heap Xr1.out (show B < B + 1 by omega)
    clear hk1 hg1 q1
    have Xhr1 := Lib.hid hr1
    have Xho1 := Lib.hid ho1
    have Xq2 := Lib.hid q2
    have Xr2 := Lib.hid r2
    have Xhvg := Lib.hid hvg
    clear hr1 ho1 q2 r2 hvg
    refine go_app (v := .slice none 0 0) (u := .slice aa args.length ca) (v' := .slice avh args.length cvh) (w' := w1) rfl _ (.tmp 11) 23 rfl rfl rfl Xhr1.out ?_
    go_wp2_with fail
    refine XhK1.out _ _ (fun _ => XhSk.out _ Xq2.out) ?_
    have XhS1 := Lib.hid (XhSk.out _ Xq2.out)
    refine hoist_take (i := 7) (v := ?_) rfl (by kernel_rfl) (by kernel_rfl) (by kernel_rfl) (by kernel_rfl) (fun _ _ _ h => h) XhS1.out (Or.inl ⟨by rfl, ?_⟩) ?_
    rotate_left
    · intro Wq hWq
      obtain ⟨x0, x1⟩ := hWq
      go_simp
      try with_reducible rfl
    try simp only [Act.put, List.getElem_toArray, List.getElem_cons_zero, List.getElem_cons_succ, List.setIfInBounds_toArray, List.set_cons_zero, List.set_cons_succ]
    refine hoist_take (i := 8) (v := ?_) rfl (by kernel_rfl) (by kernel_rfl) (by kernel_rfl) (by kernel_rfl) (fun _ _ _ h => h) XhS1.out (Or.inl ⟨by rfl, ?_⟩) ?_
    rotate_left
    · intro Wq hWq
      obtain ⟨x0, x1⟩ := hWq
      go_simp
      try with_reducible rfl
    try simp only [Act.put, List.getElem_toArray, List.getElem_cons_zero, List.getElem_cons_succ, List.setIfInBounds_toArray, List.set_cons_zero, List.set_cons_succ]
    refine hoist_one (i := 10) rfl (by kernel_rfl) (fun K hK => ?_)
    have XhK2 := Lib.hid hK
    clear hK
    have y0 := box_free Xr2.out 0
    have y1 := box_free Xr2.out 1
    have y2 := box_free Xr2.out 2
    have hwlt := heap_lt Xr2.out
    have z0' := cells_of_block Xr2.out 0 _ rfl
    have z1' := cells_of_block Xr2.out 1 _ rfl
    have z2' := cells_of_block Xr2.out 2 _ rfl
    simp only [Nat.zero_add] at z0' z1' z2'
    have kS : Keep (fun b => b ≠ B) w1 (((w1.setCell ⟨B, 0, none⟩ (.string pr)).setCell ⟨B, 1, none⟩ (.slice avh args.length cvh)).setCell ⟨B, 2, none⟩ (.slice none 0 0)) := ((Keep.setCell _ _ _ (by simp)).trans (Keep.setCell _ _ _ (by simp))).trans (Keep.setCell _ _ _ (by simp))
    go_wp2_with fail
    refine XhK2.out _ _ (fun h => by simp at h) ?_
    refine hoist_done (by kernel_rfl) ?_
    refine post_abs (fun W => Keep (fun b => b < W0.heap.size) W0 W ∧ W.heap[B]? = some (.cells #[.string pr, .slice avh args.length cvh, .slice none 0 0] 28 (0, 0)) ∧ W0.heap.size ≤ B ∧ W.ownsRow W0.heap.size 76 2 (.slice avh args.length cvh) args.length (termCells args)) ⟨Xq2.out.trans (kS.mono fun b _ h => by omega), set_at 2 _ (set_at 1 _ (set_at 0 _ Xr2.out)), by omega, own_kept Xho1.out kS (fun b hb => by have := Xhvg.out b hb; omega)⟩ ?_
    clear XhK0 XhK1 XhK2 XhS1 XhS0 Xhr1 Xho1 Xq2 Xr2 Xhvg hB hBW hz1a Xr1 Xq1a Xhw1a y0 y1 y2 z0' z1' z2' kS hwlt
  all_goals
    rintro W1 ⟨k1, bB, hBW, oh⟩
    have hz1 := k1.size
    have b1 := k1.heap Xa1.out hNl
    have b2 := k1.heap Xa2.out hNl1
    have kw1 : Keep (fun b => b < N) w W1 := Xk0.out.trans (k1.mono fun b _ h => by omega)
    have hBl := heap_lt bB
    obtain ⟨X, hX⟩ : ∃ X, W1.heap.size = X := ⟨_, rfl⟩
    have hBX : B < X := by omega
    have hXN : N + 1 < B := by omega
    have Xk1 := Lib.hid k1
    have XbB := Lib.hid bB
    have Xoh := Lib.hid oh
    have Xb1 := Lib.hid b1
    have Xb2 := Lib.hid b2
    have Xkw1 := Lib.hid kw1
    have XhX := Lib.hid hX
    clear k1 bB oh b1 b2 kw1 hX
    go_wp2_with fail
    go_loopw [4] (fun i' wr => ∃ (k : Nat) (vb : Value), k ≤ body.length ∧ i' = .int .i64 (k : Int) ∧ Keep (fun b => b < X ∧ b ≠ B) W1 wr ∧ wr.heap[B]? = some (.cells #[.string pr, .slice avh args.length cvh, vb] 28 (0, 0)) ∧ BodyOwn X 78 76 wr vb (body.take k)) (fun i _ => body.length - (intOf i).toNat)
    case atStart => exact ⟨0, _, by omega, rfl, Keep.refl _ _, XbB.out, BodyOwn.nil _ _ _ _⟩
    case round =>
      obtain ⟨k, vb, hk, rfl, hK, hBk, hbo⟩ := hrel
      have hsz := hK.size
      have hXw : X ≤ wr.heap.size := by have := XhX.out; omega
      obtain ⟨avb, cvb, rfl⟩ := hbo.form
      have hlk : (body.take k).length = k := by rw [List.length_take]; omega
      rw [hlk] at hBk hbo
      have d1 := hK.heap Xb1.out (show N < X ∧ N ≠ B by omega)
      have d2 := cells_of_block d1 2 _ rfl
      have e2 := cells_of_block hBk 2 _ rfl
      have e2f := box_free hBk 2
      simp only [Nat.zero_add] at d2 e2
      have hNw : N < wr.heap.size := by omega
      have hBw : B < wr.heap.size := by omega
      have kw : Keep (fun b => b < N) w wr := Xkw1.out.trans (hK.mono fun b _ h => by omega)
      by_cases hlt : k < body.length
      · have hlt1 : (k : Int) < body.length := by omega
        have hk0 : (0 : Int) ≤ k := by omega
        obtain ⟨x, hx⟩ : ∃ x, body[k]? = some x := ⟨_, List.getElem?_eq_getElem hlt⟩
        obtain ⟨b4, o4, rfl, hb4, sa, hcl4, hsa⟩ := Xheb.out k x hx
        obtain ⟨asa, csa, rfl, hlx, -, -⟩ := id hsa
        obtain ⟨hs3, hs4⟩ := terms_src hsa
        have g : ∀ j v, (litCells x (.slice asa x.atom.args.length csa))[j]? = some v → wr.cell? ⟨b4, o4 + k * 7 + j, none⟩ = some v := fun j v h => kw.cell (hcl4 j v h) (show b4 < N by omega)
        have m0 := g 0 _ rfl
        have m1 := g 1 _ rfl
        have m2 := g 2 _ rfl
        have m3 := g 3 _ rfl
        have m4 := g 4 _ rfl
        have m5 := g 5 _ rfl
        have m6 := g 6 _ rfl
        simp only [Nat.add_zero] at m0
        have hb4w : b4 < wr.heap.size := by omega
        have htk : body.take (k + 1) = body.take k ++ [x] := by rw [List.take_add_one, hx]; rfl
        obtain ⟨D, hD⟩ : ∃ D, wr.heap.size = D := ⟨_, rfl⟩
        obtain ⟨W5, hW5⟩ : ∃ W5, wr.alloc (.cells #[.int .i64 x.kind, .string x.atom.pred, .slice asa x.atom.args.length csa, .bool x.left.var, .string x.left.text, .bool x.right.var, .string x.right.text] 78) = W5 := ⟨_, rfl⟩
        have k5 : Keep (fun _ => True) wr W5 := by rw [← hW5]; exact Keep.alloc _ _ _
        have z5 : W5.heap.size = wr.heap.size + 1 := by rw [← hW5]; simp
        have bD := new_block wr (.cells #[.int .i64 x.kind, .string x.atom.pred, .slice asa x.atom.args.length csa, .bool x.left.var, .string x.left.text, .bool x.right.var, .string x.right.text] 78)
        rw [hW5, hD] at bD
        obtain ⟨va, W6, hr6, ho6, hg6, hk6⟩ := appA (P := Try.prog) el_terms 23 (base := W5.heap.size) (World.ownsRow_nil W5 W5.heap.size 76 2) asa x.atom.args.length csa (termCells x.atom.args) (termCells_len _)
          (fun b hb j u hj => (kw.trans (k5.mono fun _ _ _ => trivial)).cell (hs3 b hb j u hj) (by
            obtain ⟨q, e⟩ : ∃ q, b = q := ⟨_, rfl⟩
            have := World.block_lt_of_cell? w _ (hs3 b hb j u hj)
            have h2 : (b.add j).block = b.block := by unfold Addr.add; split <;> rfl
            rw [h2] at this ⊢
            rw [hb] at hsa
            obtain ⟨_, _, hv, _, _, he⟩ := hsa
            cases hv
            have hj0 : j < (termCells x.atom.args).length := (List.getElem?_eq_some_iff.1 hj).1
            rw [termCells_len] at hj0
            obtain ⟨b9, o9, e9, hb9, _⟩ := he 0 _ (List.getElem?_eq_getElem (show 0 < x.atom.args.length by omega))
            cases e9
            simp only
            omega)) hs4 (termCells_one _) (by omega) (Nat.le_refl _)
        simp only [Nat.zero_add, List.nil_append] at hr6 ho6
        obtain ⟨av6, cv6, rfl⟩ := own_form ho6
        have hv6 : ∀ b, Value.ownBlock (.slice av6 x.atom.args.length cv6) = some b → W5.heap.size ≤ b := fun b e => by
          rcases hg6 b e with h1 | h1
          · simp [Value.ownBlock] at h1
          · exact h1
        have q6 : Keep (fun b => b < W5.heap.size) W5 W6 := hk6.mono fun b _ h e => by have := hv6 b e; omega
        have hz6 := q6.size
        have bD6 := q6.heap bD (by omega)
        have s2 := cells_of_block bD 2 _ rfl
        have t2 := cells_of_block bD6 2 _ rfl
        have t2f := box_free bD6 2
        simp only [Nat.zero_add] at s2 t2
        have hDl6 := heap_lt bD6
        have hDl5 := heap_lt bD
        obtain ⟨W7, hW7⟩ : ∃ W7, W6.setCell ⟨D, 2, none⟩ (.slice av6 x.atom.args.length cv6) = W7 := ⟨_, rfl⟩
        have k7 : Keep (fun b => b ≠ D) W6 W7 := by rw [← hW7]; exact Keep.setCell _ _ _ (by simp)
        have hz7 := k7.size
        have bD7 := set_at 2 (.slice av6 x.atom.args.length cv6) bD6
        rw [hW7] at bD7
        simp only [List.setIfInBounds_toArray, List.set_cons_succ, List.set_cons_zero] at bD7
        have ho7 := own_kept ho6 k7 (fun b hb => by have := hv6 b hb; omega)
        have k57 : Keep (fun b => b < wr.heap.size) wr W7 := ((k5.mono fun _ _ _ => trivial).trans (q6.mono fun b _ h => by omega)).trans (k7.mono fun b _ h => by omega)
        have hbo7 := hbo.keepT k57 (fun b cs t _ h _ => heap_lt h)
        have hBk7 := k57.heap hBk hBw
        have hK7 : Keep (fun b => b < X ∧ b ≠ B) W1 W7 := hK.trans (k57.mono fun b _ h => by omega)
        have u0 := cells_of_block bD7 0 _ rfl
        have u1' := cells_of_block bD7 1 _ rfl
        have u2' := cells_of_block bD7 2 _ rfl
        have u3' := cells_of_block bD7 3 _ rfl
        have u4' := cells_of_block bD7 4 _ rfl
        have u5' := cells_of_block bD7 5 _ rfl
        have u6' := cells_of_block bD7 6 _ rfl
        have v2 := cells_of_block hBk7 2 _ rfl
        simp only [Nat.zero_add] at u0 u1' u2' u3' u4' u5' u6' v2
        have hDl7 := heap_lt bD7
        have hBl7 := heap_lt hBk7
        obtain ⟨vb2, W8, hr8, hbo8, hk8⟩ := hbo7.snoc x (.slice av6 x.atom.args.length cv6) (ho7.mono (show X ≤ W5.heap.size by omega)) (by rw [hlk]; omega) (by omega)
        unfold litCells at hr8
        obtain ⟨ps8, _, hown8, _⟩ := hbo7
        have hob8 : ∀ b, some b = Value.ownBlock (.slice avb k cvb) → X ≤ b := fun b hb => (World.ownsRow.lt hown8 b hb.symm).1
        rw [← htk] at hbo8
        obtain ⟨avb2, cvb2, rfl⟩ := hbo8.form
        have hlk2 : (body.take (k + 1)).length = k + 1 := by rw [List.length_take]; omega
        rw [hlk2] at hr8 hbo8
        have hBk8 := hk8.heap hBk7 (fun e => by have := hob8 _ e; omega)
        have w2 := cells_of_block hBk8 2 _ rfl
        have w2f := box_free hBk8 2
        simp only [Nat.zero_add] at w2
        have hBl8 := heap_lt hBk8
        have hK8 : Keep (fun b => b < X ∧ b ≠ B) W1 W8 := hK7.trans (hk8.mono fun b _ h e => by have := hob8 _ e; omega)
        obtain ⟨W9, hW9⟩ : ∃ W9, W8.setCell ⟨B, 2, none⟩ (.slice avb2 (k + 1) cvb2) = W9 := ⟨_, rfl⟩
        have k9 : Keep (fun b => b ≠ B) W8 W9 := by rw [← hW9]; exact Keep.setCell _ _ _ (by simp)
        have hBk9 := set_at 2 (.slice avb2 (k + 1) cvb2) hBk8
        rw [hW9] at hBk9
        simp only [List.setIfInBounds_toArray, List.set_cons_succ, List.set_cons_zero] at hBk9
        have hbo9 := hbo8.keepT k9 (fun b cs t h _ _ => by omega)
        have hK9 : Keep (fun b => b < X ∧ b ≠ B) W1 W9 := hK8.trans (k9.mono fun b _ h => h.2)
        clear g hcl4 hsa hs3 hs4 hx hK hBk hbo d1 k5 bD ho6 hg6 hk6 hv6 q6 bD6 k7 bD7 ho7 k57 hBk7 hK7 hown8 hob8 hbo8 hBk8 hK8 k9 hk8
        have Xhr6 := Lib.hid hr6
        have Xhr8 := Lib.hid hr8
        have XhW5 := Lib.hid hW5
        have XhW7 := Lib.hid hW7
        have XhW9 := Lib.hid hW9
        have XhBk9 := Lib.hid hBk9
        have Xhbo9 := Lib.hid hbo9
        have XhK9 := Lib.hid hK9
        have XhD := Lib.hid hD
        have Xkw := Lib.hid kw
        have Xhlk := Lib.hid hlk
        have Xhlk2 := Lib.hid hlk2
        have Xhtk := Lib.hid htk
        clear hr6 hr8 hW5 hW7 hW9 hBk9 hbo9 hK9 hD kw hlk hlk2 htk
        go_upto_region 6 with fail
        rw [XhW5.out, XhD.out]
        go_upto_region 7 with (at_builtin; refine go_app (v := .slice none 0 0) (u := .slice asa x.atom.args.length csa) (v' := .slice av6 x.atom.args.length cv6) (w' := W6) rfl _ (.tmp 29) 23 rfl rfl rfl Xhr6.out ?_)
        rw [XhW7.out]
        go_wp2_with (at_builtin; refine go_app (v := .slice avb k cvb) (u := .slice (some ⟨W7.heap.size, 0, none⟩) 1 1) (v' := .slice avb2 (k + 1) cvb2) (w' := W8) rfl (.tmp 34) (.tmp 36) 26 rfl rfl rfl Xhr8.out ?_)
        rw [XhW9.out]
        go_roundw
        case rel => exact ⟨k + 1, _, by omega, by go_num, XhK9.out, XhBk9.out, Xhbo9.out⟩
        case measure => simp [intOf]; omega
      · obtain rfl : k = body.length := by omega
        rw [List.take_length] at hbo
        have x0 := cells_of_block hBk 0 _ rfl
        have x1 := cells_of_block hBk 1 _ rfl
        have x2 := cells_of_block hBk 2 _ rfl
        have ra := hK.heap Xb2.out (show N + 1 < X ∧ N + 1 ≠ B by omega)
        have r0 := cells_of_block ra 0 _ rfl
        have r1 := cells_of_block ra 1 _ rfl
        have r2 := cells_of_block ra 2 _ rfl
        have f0 := box_free ra 0
        have f1 := box_free ra 1
        have f2 := box_free ra 2
        simp only [Nat.zero_add] at x0 x1 x2 r0 r1 r2
        have hNw1 : N + 1 < wr.heap.size := heap_lt ra
        have oh2 := own_kept Xoh.out hK (fun b hb => by
          have h1 := World.ownsRow.lt Xoh.out b hb
          refine ⟨by have := XhX.out; omega, fun e => ?_⟩
          obtain ⟨cs, ht⟩ := own_typed Xoh.out hb
          rw [e, XbB.out] at ht
          cases ht)
        clear d1
        have XhK := Lib.hid hK
        have XhBk := Lib.hid hBk
        have Xhbo := Lib.hid hbo
        have Xkw := Lib.hid kw
        have Xra := Lib.hid ra
        have Xoh2 := Lib.hid oh2
        have Xhlk := Lib.hid hlk
        clear hK hBk hbo kw ra oh2 hlk
        go_wp2_with fail
        refine bodyPost_ret (v := .agg #[.string pr, .slice avh args.length cvh, .slice avb body.length cvb]) (by simp [results, Try.results10, go_sem, r0, r1, r2, hNw1]) rfl ?_
        have kS : Keep (fun b => b ≠ N + 1) wr (((wr.setCell ⟨N + 1, 0, none⟩ (.string pr)).setCell ⟨N + 1, 1, none⟩ (.slice avh args.length cvh)).setCell ⟨N + 1, 2, none⟩ (.slice avb body.length cvb)) :=
          ((Keep.setCell _ _ _ (by simp)).trans (Keep.setCell _ _ _ (by simp))).trans (Keep.setCell _ _ _ (by simp))
        have hNe := XhN.out
        have hXe := XhX.out
        exact ⟨_, _, rfl, ⟨(own_kept Xoh2.out kS (fun b hb => by have := (World.ownsRow.lt Xoh2.out b hb).1; omega)).mono (by omega), (Xhbo.out.keepT kS (fun b cs t h _ _ => by omega)).mono (by omega)⟩, (Xkw.out.trans (kS.mono fun b _ h => by omega)).mono fun b _ h => by omega⟩
end Go.Proofs
