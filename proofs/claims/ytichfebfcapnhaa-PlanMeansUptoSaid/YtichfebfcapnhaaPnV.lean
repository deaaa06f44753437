/- Layer 16 (plan): a rule copied into new memory: the program's. -/
import Derived.Test.YtichfebfcapnhaaProg
import Derived.Test.YtichfebfcapnhaaPnTToPnU
import Derived.Test.YtichfebfcapnhaaOwnToRowC
namespace Go.Proofs
open Go.RowKit Go.Ink
set_option linter.unusedVariables false
set_option linter.unusedSimpArgs false
attribute [local go_sem] Oper.semAt_some

set_option maxRecDepth 100000 in
set_option maxHeartbeats 2000000 in
theorem copied_any (n : Nat) (r : RuleD) (sh sb : Value) (w : World) (hr : RuleIn n w sh sb r) (hn : n ≤ w.heap.size) :
    Calls Try.prog 38 #[ruleV r sh sb] w fun e w' => ∃ vh vb, e = .returned (ruleV r vh vb) ∧ RuleOwn w.heap.size 78 76 w' vh vb r ∧ Keep (fun b => b < w.heap.size) w w' := by
  obtain ⟨⟨pr, args⟩, body⟩ := r
  obtain ⟨hh, hb⟩ := id hr
  unfold ruleV
  simp only at hh hb ⊢
  obtain ⟨aa, ca, rfl, hla, hcaa, -⟩ := id hh
  obtain ⟨ab, cb, rfl, hlb, hcb, -⟩ := id hb
  obtain ⟨hs1, hs2⟩ := terms_src hh
  obtain ⟨ps, hps, hpt, hp1, hp2⟩ := lits_pairs hb
  have hplen : ps.length = body.length := by have := congrArg List.length hps; rwa [List.length_map] at this
  have hone := litC_one hpt
  obtain ⟨N, hN⟩ : ∃ N, w.heap.size = N := ⟨_, rfl⟩
  have hc1 := fun W (hK : Keep (fun b => b < w.heap.size) w W) => cloneTerms_raw aa args.length ca (termCells args) W (termCells_len args) (fun b hb j u hj => hK.cell (hs1 b hb j u hj) (World.block_lt_of_cell? w _ (hs1 b hb j u hj))) hs2 (termCells_one args) hla
  have hc2 := fun W (hK : Keep (fun b => b < w.heap.size) w W) => cloneLits_raw ab body.length cb (ps.flatMap litC) W (by rw [flatMap_len litC 7 (fun _ => rfl), hplen]) (fun b hb j u hj => hK.cell (hp1 b hb j u hj) (World.block_lt_of_cell? w _ (hp1 b hb j u hj))) hp2 hone hlb
  have hc3 := fun p (hp : p ∈ ps) W (hK : Keep (fun b => b < w.heap.size) w W) => show ∀ a c, p.2 = .slice a p.1.atom.args.length c → _ from fun a c e =>
    have hs := terms_src (e ▸ hpt p hp)
    cloneTerms_raw a p.1.atom.args.length c (termCells p.1.atom.args) W (termCells_len _) (fun b hb j u hj => hK.cell (hs.1 b hb j u hj) (World.block_lt_of_cell? w _ (hs.1 b hb j u hj))) hs.2 (termCells_one _) (by obtain ⟨_, _, _, h, _⟩ := hpt p hp; exact h)
  clear hh hb hr hs1 hs2 hp1 hp2 hone
  have Xhc1 := Lib.hid hc1
  have Xhc2 := Lib.hid hc2
  have Xhc3 := Lib.hid hc3
  have Xhps := Lib.hid hps
  have Xhpt := Lib.hid hpt
  have Xhplen := Lib.hid hplen
  have XhN := Lib.hid hN
  clear hc1 hc2 hc3 hps hpt hplen hN
  go_enter Try.func38, Try.ntmps38
  go_wp2_with fail
  refine Calls_abs2 (fun W => Keep (fun b => b < w.heap.size) w W ∧ W.heap.size = w.heap.size + 1 + 1 ∧ W.heap[w.heap.size]? = some (.cells #[.string pr, .slice aa args.length ca, .slice ab body.length cb] 28 (0, 0)) ∧
    W.heap[w.heap.size + 1]? = some (.cells #[.string ⟨#[]⟩, .slice none 0 0, .slice none 0 0] 28 (0, 0))) ⟨(Keep.alloc _ _ _).trans (Keep.alloc _ _ _), by simp, by simp only [alloc_get, World.size_alloc]; simp, by simp only [alloc_get, World.size_alloc]; simp⟩ ?_
  rintro W0 ⟨k0, z0, g1, g2⟩
  have hcc1 := Xhc1.out W0 k0
  rw [XhN.out] at k0 z0 g1 g2 ⊢
  have h1c := cells_of_block g1 1 _ rfl
  have h2c := cells_of_block g1 2 _ rfl
  simp only [Nat.zero_add] at h1c h2c
  have Xk0 := Lib.hid k0
  have Xg1 := Lib.hid g1
  have Xg2 := Lib.hid g2
  clear k0 g1 g2
  refine hcc1.mono ?_
  rintro e W1 ⟨vh, rfl, oh, k1⟩
  obtain ⟨avh, cvh, rfl⟩ := own_form oh
  have e1 := k1.cell h1c trivial
  have e2 := k1.cell h2c trivial
  have b1 := k1.heap Xg1.out trivial
  have e1f := box_free b1 1
  have hz1 := k1.size
  have hl1 : N < W1.heap.size := by omega
  obtain ⟨W2, hW2⟩ : ∃ W2, W1.setCell ⟨N, 1, none⟩ (.slice avh args.length cvh) = W2 := ⟨_, rfl⟩
  have k2 : Keep (fun b => b ≠ N) W1 W2 := by rw [← hW2]; exact Keep.setCell _ _ _ (by simp)
  have z2 : W2.heap.size = W1.heap.size := by rw [← hW2]; simp [World.setCell]
  have b2 := set_at 1 (.slice avh args.length cvh) b1
  rw [hW2] at b2
  simp only [List.setIfInBounds_toArray, List.set_cons_succ, List.set_cons_zero] at b2
  have oh2 := own_kept oh k2 (fun b hb => by have := (World.ownsRow.lt oh b hb).1; omega)
  have kw2 : Keep (fun b => b < N) w W2 := (Xk0.out.trans (k1.mono fun _ _ _ => trivial)).trans (k2.mono fun b _ h => by omega)
  have r2 := k2.heap (k1.heap Xg2.out trivial) (show N + 1 ≠ N by omega)
  have hcc2 := Xhc2.out W2 (kw2.mono fun b _ h => by have := XhN.out; omega)
  have q2 := cells_of_block b2 2 _ rfl
  simp only [Nat.zero_add] at q2
  have hl2 : N < W2.heap.size := by omega
  clear h1c h2c hcc1 oh k1 k2 b1
  have XhW2 := Lib.hid hW2
  have Xb2 := Lib.hid b2
  have Xoh2 := Lib.hid oh2
  have Xkw2 := Lib.hid kw2
  have Xr2 := Lib.hid r2
  have Xhcc2 := Lib.hid hcc2
  clear hW2 b2 oh2 kw2 r2 hcc2
  go_wp2_with fail
  rw [XhW2.out]
  refine Xhcc2.out.mono ?_
  rintro e W3 ⟨vb, rfl, ob, k3⟩
  have hz3 := k3.size
  obtain ⟨avb, cvb, rfl⟩ := own_form ob
  have b3 := k3.heap Xb2.out trivial
  have q3 := cells_of_block b3 2 _ rfl
  have q3f := box_free b3 2
  simp only [Nat.zero_add] at q3
  have hl3 : N < W3.heap.size := by omega
  obtain ⟨W4, hW4⟩ : ∃ W4, W3.setCell ⟨N, 2, none⟩ (.slice avb body.length cvb) = W4 := ⟨_, rfl⟩
  have k4 : Keep (fun b => b ≠ N) W3 W4 := by rw [← hW4]; exact Keep.setCell _ _ _ (by simp)
  have z4 : W4.heap.size = W3.heap.size := by rw [← hW4]; simp [World.setCell]
  have b4 := set_at 2 (.slice avb body.length cvb) b3
  rw [hW4] at b4
  simp only [List.setIfInBounds_toArray, List.set_cons_succ, List.set_cons_zero] at b4
  have k34 : Keep (fun b => b ≠ N) W2 W4 := (k3.mono fun _ _ _ => trivial).trans k4
  have oh4 := own_kept Xoh2.out k34 (fun b hb => by have := (World.ownsRow.lt Xoh2.out b hb).1; omega)
  have ob4 := (own_kept ob k4 (fun b hb => by have := (World.ownsRow.lt ob b hb).1; omega)).mono (show N + 2 ≤ W2.heap.size by omega)
  have oh4 := oh4.mono (show N + 2 ≤ W0.heap.size by omega)
  have kw4 : Keep (fun b => b < N) w W4 := Xkw2.out.trans (k34.mono fun b _ h => by omega)
  have r4 := k34.heap Xr2.out (show N + 1 ≠ N by omega)
  have q4 := cells_of_block b4 2 _ rfl
  simp only [Nat.zero_add] at q4
  have hl4 : N < W4.heap.size := by omega
  clear q2 ob k3 k4 k34 b3
  have XhW4 := Lib.hid hW4
  have Xb4 := Lib.hid b4
  have Xoh4 := Lib.hid oh4
  have Xob4 := Lib.hid ob4
  have Xkw4 := Lib.hid kw4
  have Xr4 := Lib.hid r4
  clear hW4 b4 oh4 ob4 kw4 r4
  go_wp2_with fail
  rw [XhW4.out]
  clear q3 q3f q4
  go_loopw [17] (fun i' wr => ∃ (k : Nat) (qs : List (LitD × Value)), k ≤ body.length ∧ i' = .int .i64 (k : Int) ∧ Keep (fun b => b < N + 2) W4 wr ∧ qs.length = k ∧ qs.map (·.1) = body.take k ∧
    wr.ownsRow (N + 2) 78 7 (.slice avb body.length cvb) body.length ((qs ++ ps.drop k).flatMap litC) ∧ wr.ownsRow (N + 2) 76 2 (.slice avh args.length cvh) args.length (termCells args) ∧
    (∀ p, p ∈ qs → wr.ownsRow (N + 2) 76 2 p.2 p.1.atom.args.length (termCells p.1.atom.args))) (fun i _ => body.length - (intOf i).toNat)
  case atStart => exact ⟨0, [], by omega, rfl, Keep.refl _ _, rfl, rfl, Xob4.out, Xoh4.out, by simp⟩
  case round =>
    obtain ⟨k, qs, hk, rfl, hK, hql, hqm, hob, hoh, hqo⟩ := hrel
    have hsz := hK.size
    have bx := hK.heap Xb4.out (show N < N + 2 by omega)
    have c2 := cells_of_block bx 2 _ rfl
    simp only [Nat.zero_add] at c2
    have hNl : N < wr.heap.size := by omega
    have kw : Keep (fun b => b < w.heap.size) w wr := (Xkw4.out.mono fun b _ h => by have := XhN.out; omega).trans (hK.mono fun b _ h => by have := XhN.out; omega)
    by_cases hlt : k < body.length
    · have hlt1 : (k : Int) < body.length := by omega
      have hk0 : (0 : Int) ≤ k := by omega
      obtain ⟨p, hp⟩ : ∃ p, ps[k]? = some p := ⟨_, List.getElem?_eq_getElem (by rw [Xhplen.out]; exact hlt)⟩
      obtain ⟨g, rfl⟩ : ∃ g, avb = some ⟨g, 0, none⟩ := by
        rcases hob.2 with ⟨h1, h2⟩ | ⟨g, _, _, h1, _⟩
        · omega
        · cases h1; exact ⟨g, rfl⟩
      have hdrop : ps.drop k = p :: ps.drop (k + 1) := by
        have hkk := (List.getElem?_eq_some_iff.1 hp).1
        have := List.drop_eq_getElem_cons hkk
        rw [(List.getElem?_eq_some_iff.1 hp).2] at this
        exact this
      have hpm := List.mem_of_getElem? hp
      obtain ⟨apa, cpa, hpv, -, -, -⟩ := id (Xhpt.out p hpm)
      have hcl := Xhc3.out p hpm wr.drew (kw.trans (Keep.drew _ _)) apa cpa hpv
      have hel : wr.cell? ⟨g, k * 7 + 2, none⟩ = some p.2 := by
        have := own_elem hob (k * 7 + 2) p.2 (by rw [hdrop, flatMap_at litC 7 (fun _ => rfl) (qs ++ p :: ps.drop (k + 1)) k 2 p (by rw [List.getElem?_append_right (by omega), hql]; simp) (by omega)]; rfl)
        exact this
      rw [hpv] at hel
      have hgl := (own_cap hob)
      have hpk : body[k]? = some p.1 := by rw [← Xhps.out, List.getElem?_map, hp]; rfl
      have hxl : (k * 7 + 2) < ((qs ++ ps.drop k).flatMap litC).length := by
        rw [flatMap_len litC 7 (fun _ => rfl), List.length_append, List.length_drop, hql, Xhplen.out]; omega
      have hgw : g < wr.heap.size := hgl.2.2.1
      clear hp
      have XhK := Lib.hid hK
      have Xhql := Lib.hid hql
      have Xhqm := Lib.hid hqm
      have Xhob := Lib.hid hob
      have Xhoh := Lib.hid hoh
      have Xhqo := Lib.hid hqo
      have Xbx := Lib.hid bx
      have Xkw := Lib.hid kw
      have Xhdrop := Lib.hid hdrop
      have Xhpm := Lib.hid hpm
      have Xhcl := Lib.hid hcl
      have Xhpk := Lib.hid hpk
      have Xhpv := Lib.hid hpv
      have Xhxl := Lib.hid hxl
      clear hK hql hqm hob hoh hqo bx kw hdrop hpm hcl hpk hpv hxl
      go_wp2_with fail
      refine region_hoist rfl (fun W => W.cell? ⟨N, 2, none⟩ = some (.slice (some ⟨g, 0, none⟩) body.length cvb) ∧ W.cell? ⟨g, k * 7 + 2, none⟩ = some (.slice apa p.1.atom.args.length cpa)) [14] ?_
      have XhS0 := Lib.hid (And.intro c2 hel)
      refine hoist_take (i := 0) (v := ?_) rfl (by kernel_rfl) (by kernel_rfl) (by kernel_rfl) (by kernel_rfl) (fun _ _ _ h => h) XhS0.out (Or.inl ⟨by rfl, ?_⟩) ?_
      rotate_left
      · intro Wq hWq
        obtain ⟨s0, s1⟩ := hWq
        go_simp
        try with_reducible rfl
      try simp only [Act.put, List.getElem_toArray, List.getElem_cons_zero, List.getElem_cons_succ, List.setIfInBounds_toArray, List.set_cons_zero, List.set_cons_succ]
      refine hoist_take (i := 1) (v := ?_) rfl (by kernel_rfl) (by kernel_rfl) (by kernel_rfl) (by kernel_rfl) (fun _ _ _ h => h) XhS0.out (Or.inl ⟨by rfl, ?_⟩) ?_
      rotate_left
      · intro Wq hWq
        obtain ⟨s0, s1⟩ := hWq
        go_simp
        try with_reducible rfl
      try simp only [Act.put, List.getElem_toArray, List.getElem_cons_zero, List.getElem_cons_succ, List.setIfInBounds_toArray, List.set_cons_zero, List.set_cons_succ]
      refine hoist_take (i := 2) (v := ?_) rfl (by kernel_rfl) (by kernel_rfl) (by kernel_rfl) (by kernel_rfl) (fun _ _ _ h => h) XhS0.out (Or.inl ⟨by rfl, ?_⟩) ?_
      rotate_left
      · intro Wq hWq
        obtain ⟨s0, s1⟩ := hWq
        go_simp
        try with_reducible rfl
      try simp only [Act.put, List.getElem_toArray, List.getElem_cons_zero, List.getElem_cons_succ, List.setIfInBounds_toArray, List.set_cons_zero, List.set_cons_succ]
      refine hoist_take (i := 3) (v := ?_) rfl (by kernel_rfl) (by kernel_rfl) (by kernel_rfl) (by kernel_rfl) (fun _ _ _ h => h) XhS0.out (Or.inl ⟨by rfl, ?_⟩) ?_
      rotate_left
      · intro Wq hWq
        obtain ⟨s0, s1⟩ := hWq
        go_simp
        try with_reducible rfl
      try simp only [Act.put, List.getElem_toArray, List.getElem_cons_zero, List.getElem_cons_succ, List.setIfInBounds_toArray, List.set_cons_zero, List.set_cons_succ]
      refine hoist_take (i := 4) (v := ?_) rfl (by kernel_rfl) (by kernel_rfl) (by kernel_rfl) (by kernel_rfl) (fun _ _ _ h => h) XhS0.out (Or.inl ⟨by rfl, ?_⟩) ?_
      rotate_left
      · intro Wq hWq
        obtain ⟨s0, s1⟩ := hWq
        go_simp
        try with_reducible rfl
      try simp only [Act.put, List.getElem_toArray, List.getElem_cons_zero, List.getElem_cons_succ, List.setIfInBounds_toArray, List.set_cons_zero, List.set_cons_succ]
      refine hoist_take (i := 5) (v := ?_) rfl (by kernel_rfl) (by kernel_rfl) (by kernel_rfl) (by kernel_rfl) (fun _ _ _ h => h) XhS0.out (Or.inl ⟨by rfl, ?_⟩) ?_
      rotate_left
      · intro Wq hWq
        obtain ⟨s0, s1⟩ := hWq
        go_simp
        try with_reducible rfl
      try simp only [Act.put, List.getElem_toArray, List.getElem_cons_zero, List.getElem_cons_succ, List.setIfInBounds_toArray, List.set_cons_zero, List.set_cons_succ]
      refine hoist_take (i := 6) (v := ?_) rfl (by kernel_rfl) (by kernel_rfl) (by kernel_rfl) (by kernel_rfl) (fun _ _ _ h => h) XhS0.out (Or.inl ⟨by rfl, ?_⟩) ?_
      rotate_left
      · intro Wq hWq
        obtain ⟨s0, s1⟩ := hWq
        go_simp
        try with_reducible rfl
      try simp only [Act.put, List.getElem_toArray, List.getElem_cons_zero, List.getElem_cons_succ, List.setIfInBounds_toArray, List.set_cons_zero, List.set_cons_succ]
      refine hoist_take (i := 7) (v := ?_) rfl (by kernel_rfl) (by kernel_rfl) (by kernel_rfl) (by kernel_rfl) (fun _ _ _ h => h) XhS0.out (Or.inl ⟨by rfl, ?_⟩) ?_
      rotate_left
      · intro Wq hWq
        obtain ⟨s0, s1⟩ := hWq
        go_simp
        try with_reducible rfl
      try simp only [Act.put, List.getElem_toArray, List.getElem_cons_zero, List.getElem_cons_succ, List.setIfInBounds_toArray, List.set_cons_zero, List.set_cons_succ]
      refine hoist_take (i := 8) (v := ?_) rfl (by kernel_rfl) (by kernel_rfl) (by kernel_rfl) (by kernel_rfl) (fun _ _ _ h => h) XhS0.out (Or.inl ⟨by rfl, ?_⟩) ?_
      rotate_left
      · intro Wq hWq
        obtain ⟨s0, s1⟩ := hWq
        go_simp
        try with_reducible rfl
      try simp only [Act.put, List.getElem_toArray, List.getElem_cons_zero, List.getElem_cons_succ, List.setIfInBounds_toArray, List.set_cons_zero, List.set_cons_succ]
      refine hoist_take (i := 9) (v := ?_) rfl (by kernel_rfl) (by kernel_rfl) (by kernel_rfl) (by kernel_rfl) (fun _ _ _ h => h) XhS0.out (Or.inl ⟨by rfl, ?_⟩) ?_
      rotate_left
      · intro Wq hWq
        obtain ⟨s0, s1⟩ := hWq
        go_simp
        try with_reducible rfl
      try simp only [Act.put, List.getElem_toArray, List.getElem_cons_zero, List.getElem_cons_succ, List.setIfInBounds_toArray, List.set_cons_zero, List.set_cons_succ]
      refine hoist_one (i := 10) rfl (by kernel_rfl) (fun KK hKK => ?_)
      have XhR0 := Lib.hid hKK
      clear hKK
      simp only [List.getElem_toArray, List.getElem_cons_zero, List.getElem_cons_succ, Act.put, List.setIfInBounds_toArray, List.set_cons_zero, List.set_cons_succ, Nat.zero_add]
      go_wp2_with fail
      refine Xhcl.out.mono ?_
      rintro e W5 ⟨v', rfl, o5, k5⟩
      have n0 := k5.cell (show wr.drew.cell? ⟨N, 2, none⟩ = _ from c2) trivial
      have n1 := k5.cell (show wr.drew.cell? ⟨g, k * 7 + 2, none⟩ = _ from hel) trivial
      have hz5 := k5.size
      simp only [World.size_drew] at hz5
      obtain ⟨av5, cv5, rfl⟩ := own_form o5
      go_wp2_with fail
      refine XhR0.out _ _ (fun _ => ⟨n0, n1⟩) ?_
      refine hoist_one (i := 11) rfl (by kernel_rfl) (fun KK hKK => ?_)
      have XhR1 := Lib.hid hKK
      clear hKK
      go_wp2_with fail
      refine XhR1.out _ _ (fun _ => ⟨n0, n1⟩) ?_
      refine hoist_one (i := 12) rfl (by kernel_rfl) (fun KK hKK => ?_)
      have XhR2 := Lib.hid hKK
      clear hKK
      go_wp2_with fail
      refine XhR2.out _ _ (fun _ => ⟨n0, n1⟩) ?_
      refine hoist_one (i := 13) rfl (by kernel_rfl) (fun KK hKK => ?_)
      have XhR3 := Lib.hid hKK
      clear hKK
      go_wp2_with fail
      refine XhR3.out _ _ (fun _ => ⟨n0, n1⟩) ?_
      refine hoist_one (i := 14) rfl (by kernel_rfl) (fun KK hKK => ?_)
      have XhR4 := Lib.hid hKK
      clear hKK
      have k05 : Keep (fun _ => True) wr W5 := (Keep.drew _ _).trans k5
      have hob5 := own_kept Xhob.out k05 (fun _ _ => trivial)
      obtain ⟨cs5, ht5⟩ := own_typed hob5 (b := g) rfl
      have n1f := box_free ht5 (k * 7 + 2)
      have hg5 := heap_lt ht5
      obtain ⟨W6, hW6⟩ : ∃ W6, W5.setCell ⟨g, k * 7 + 2, none⟩ (.slice av5 p.1.atom.args.length cv5) = W6 := ⟨_, rfl⟩
      have k6 : Keep (fun b => b ≠ g) W5 W6 := by rw [← hW6]; exact Keep.setCell _ _ _ (by simp)
      have hob6 := own_set hob5 (k * 7 + 2) (.slice av5 p.1.atom.args.length cv5) Xhxl.out
      rw [hW6, Xhdrop.out] at hob6
      have hset := lit_set qs (ps.drop (k + 1)) p (.slice av5 p.1.atom.args.length cv5)
      rw [Xhql.out] at hset
      rw [hset] at hob6
      have notg : ∀ (base : Nat) (v : Value) (m : Nat) (xs : List Value), W5.ownsRow base 76 2 v m xs → ∀ b, v.ownBlock = some b → b ≠ g := fun base v m xs h b hb e => by
        obtain ⟨c2, t2⟩ := own_typed h hb
        rw [e, ht5] at t2
        cases t2
      have hoh5 := own_kept Xhoh.out k05 (fun _ _ => trivial)
      have hoh6 := own_kept hoh5 k6 (notg _ _ _ _ hoh5)
      have hK6 : Keep (fun b => b < N + 2) W4 W6 := (XhK.out.trans (k05.mono fun _ _ _ => trivial)).trans (k6.mono fun b _ h => by omega)
      have o6 := (own_kept o5 k6 (notg _ _ _ _ o5)).mono (show N + 2 ≤ wr.heap.size by omega)
      have hqo6 : ∀ q, q ∈ qs ++ [(p.1, Value.slice av5 p.1.atom.args.length cv5)] → W6.ownsRow (N + 2) 76 2 q.2 q.1.atom.args.length (termCells q.1.atom.args) := fun q hq => by
        rcases List.mem_append.1 hq with h | h
        · have h1 := own_kept (Xhqo.out q h) k05 (fun _ _ => trivial)
          exact own_kept h1 k6 (notg _ _ _ _ h1)
        · simp only [List.mem_singleton] at h
          subst h
          exact o6
      have hqm6 : (qs ++ [(p.1, Value.slice av5 p.1.atom.args.length cv5)]).map (·.1) = body.take (k + 1) := by
        rw [List.map_append, Xhqm.out, List.take_add_one, Xhpk.out]; rfl
      have hql6 : (qs ++ [(p.1, Value.slice av5 p.1.atom.args.length cv5)]).length = k + 1 := by rw [List.length_append, Xhql.out]; rfl
      have hob6' : W6.ownsRow (N + 2) 78 7 (.slice (some ⟨g, 0, none⟩) body.length cvb) body.length (((qs ++ [(p.1, Value.slice av5 p.1.atom.args.length cv5)]) ++ ps.drop (k + 1)).flatMap litC) := by
        rw [List.append_assoc]; exact hob6
      clear k05 hob5 ht5 k6 hob6 hset notg hoh5 k5 o5 o6
      have XhW6 := Lib.hid hW6
      have Xhob6' := Lib.hid hob6'
      have Xhoh6 := Lib.hid hoh6
      have XhK6 := Lib.hid hK6
      have Xhqo6 := Lib.hid hqo6
      have Xhqm6 := Lib.hid hqm6
      have Xhql6 := Lib.hid hql6
      clear hW6 hob6' hoh6 hK6 hqo6 hqm6 hql6
      go_wp2_with fail
      refine XhR4.out _ _ (fun h => by simp at h) ?_
      refine hoist_done (by kernel_rfl) ?_
      clear XhS0 XhR0 XhR1 XhR2 XhR3 XhR4 n0 n1 n1f
      rw [XhW6.out]
      go_wp2_with fail
      go_roundw
      case rel => exact ⟨k + 1, _, by omega, by go_num, XhK6.out, Xhql6.out, Xhqm6.out, Xhob6'.out, Xhoh6.out, Xhqo6.out⟩
      case measure => simp [intOf]; omega
    · obtain rfl : k = body.length := by omega
      have hd0 : ps.drop body.length = [] := by rw [List.drop_eq_nil_of_le (by rw [Xhplen.out]; exact Nat.le_refl _)]
      rw [hd0, List.append_nil] at hob
      rw [List.take_length] at hqm
      have c0 := cells_of_block bx 0 _ rfl
      have c1 := cells_of_block bx 1 _ rfl
      have rx := hK.heap Xr4.out (show N + 1 < N + 2 by omega)
      have d0 := cells_of_block rx 0 _ rfl
      have d1 := cells_of_block rx 1 _ rfl
      have d2 := cells_of_block rx 2 _ rfl
      have f0 := box_free rx 0
      have f1 := box_free rx 1
      have f2 := box_free rx 2
      simp only [Nat.zero_add] at c0 c1 d0 d1 d2
      have hNr : N + 1 < wr.heap.size := heap_lt rx
      clear hd0
      have XhK := Lib.hid hK
      have Xhql := Lib.hid hql
      have Xhqm := Lib.hid hqm
      have Xhob := Lib.hid hob
      have Xhoh := Lib.hid hoh
      have Xhqo := Lib.hid hqo
      have Xbx := Lib.hid bx
      have Xkw := Lib.hid kw
      have Xrx := Lib.hid rx
      clear hK hql hqm hob hoh hqo bx kw rx
      go_wp2_with fail
      refine bodyPost_ret (v := .agg #[.string pr, .slice avh args.length cvh, .slice avb body.length cvb]) (by simp [results, Try.results38, go_sem, d0, d1, d2, hNr]) rfl ?_
      have kS : Keep (fun b => b ≠ N + 1) wr (((wr.setCell ⟨N + 1, 0, none⟩ (.string pr)).setCell ⟨N + 1, 1, none⟩ (.slice avh args.length cvh)).setCell ⟨N + 1, 2, none⟩ (.slice avb body.length cvb)) :=
        ((Keep.setCell _ _ _ (by simp)).trans (Keep.setCell _ _ _ (by simp))).trans (Keep.setCell _ _ _ (by simp))
      have hNe := XhN.out
      refine ⟨_, _, rfl, ⟨(own_kept Xhoh.out kS (fun b hb => by have := (World.ownsRow.lt Xhoh.out b hb).1; omega)).mono (by omega), qs, Xhqm.out, (own_kept Xhob.out kS (fun b hb => by have := (World.ownsRow.lt Xhob.out b hb).1; omega)).mono (by omega), fun q hq => ?_⟩, Xkw.out.trans (kS.mono fun b _ h => by omega)⟩
      have h1 := Xhqo.out q hq
      exact (own_kept h1 kS (fun b hb => by have := (World.ownsRow.lt h1 b hb).1; omega)).mono (by omega)
end Go.Proofs
