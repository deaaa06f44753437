/- Layer 4, the law RelationPlays: plays. -/
import Derived.Test.YtbaemcmagkmjiaaProg
import Derived.Test.YtbaemcmagkmjiaaPlayM
import Derived.Test.YtbaemcmagkmjiaaPlayJToPlayK
namespace Go.Proofs
open Go.RowKit Go.Ink
set_option linter.unusedVariables false
set_option linter.unusedSimpArgs false
attribute [local go_sem] Oper.semAt_some

set_option maxRecDepth 100000 in
set_option maxHeartbeats 8000000 in
theorem plays_any {d : Option SlotD} {w : World} (h : SlotAt d w) (hfew : (tsS d).length < 67108864) (kd wh fr to lv : Int) (vt vc vk : Value) (tu cols key : List Int) (m : Nat) (hm : m ≤ w.heap.size) (ht : IntsIn m w vt tu) (hc : IntsIn m w vc cols) (hk : IntsIn m w vk key) (hmo : ∀ b, b < m → offS d b) (hokt : okT tu) (hokk : okT key) :
    Calls Try.prog 28 #[tV d, rV d, stepV kd wh fr to lv vt vc vk] w fun e w' => e = .returned (.bool true) ∧ ∃ d', SlotGo d w d' w' ∧ (tsS d').length ≤ (tsS d).length + 1 := by
  obtain ⟨at', ct, rfl, hlt, hct, het⟩ := id ht
  obtain ⟨ac, cc, rfl, hlc, hcc, hec⟩ := id hc
  obtain ⟨ak, ck, rfl, hlk, hck, hek⟩ := id hk
  obtain ⟨vT, hvT⟩ : ∃ v, tV d = v := ⟨_, rfl⟩
  obtain ⟨vR, hvR⟩ : ∃ v, rV d = v := ⟨_, rfl⟩
  rw [hvT, hvR]
  unfold stepV
  obtain ⟨W0, hW0⟩ : ∃ W0, w.alloc (.cells #[.int .i64 kd, .int .i64 wh, .int .i64 fr, .int .i64 to, .int .i64 lv, .slice at' tu.length ct, .slice ac cols.length cc, .slice ak key.length ck] 61) = W0 := ⟨_, rfl⟩
  obtain ⟨nb, hnb⟩ : ∃ nb, w.heap.size = nb := ⟨_, rfl⟩
  have k0 : Keep (fun _ => True) w W0 := by rw [← hW0]; exact Keep.alloc _ _ _
  have n0 : W0.heap[nb]? = some (.cells #[.int .i64 kd, .int .i64 wh, .int .i64 fr, .int .i64 to, .int .i64 lv, .slice at' tu.length ct, .slice ac cols.length cc, .slice ak key.length ck] 61 (0, 0)) := by rw [← hW0, ← hnb]; exact new_block _ _
  have h0 := h.keep k0 (fun _ _ _ => trivial)
  have ht0 := ints_stay ht (m := m) (k0.mono fun _ _ _ => trivial) (Nat.le_refl _)
  have hc0 := ints_stay hc (m := m) (k0.mono fun _ _ _ => trivial) (Nat.le_refl _)
  have hk0 := ints_stay hk (m := m) (k0.mono fun _ _ _ => trivial) (Nat.le_refl _)
  have z0 : W0.heap.size = nb + 1 := by rw [← hW0, ← hnb]; simp
  have l0 : nb < W0.heap.size := by omega
  have c0 := cells_of_block n0 0 _ rfl
  have c1 := cells_of_block n0 1 _ rfl
  have c2 := cells_of_block n0 2 _ rfl
  have c3 := cells_of_block n0 3 _ rfl
  have c4 := cells_of_block n0 4 _ rfl
  have c5 := cells_of_block n0 5 _ rfl
  have c6 := cells_of_block n0 6 _ rfl
  have c7 := cells_of_block n0 7 _ rfl
  simp only [Nat.zero_add] at c0 c1 c2 c3 c4 c5 c6 c7
  have G0 : SlotGo d w d W0 := ⟨h0, SlotOn.refl _ _, k0.mono fun _ _ _ => trivial⟩
  have hout : ∀ b, b < m → outS d b := fun b hb => h.off_out (hmo b hb)
  have hadds := slotAdds h0 hfew _ tu m (by omega) ht0 hout hokt
  have hfinds := finds_any h0 kd wh fr to lv _ (.slice ac cols.length cc) (.slice ak key.length ck) tu m (by omega) ht0 hokt
  have hmatch := matches_any h0 kd wh fr to lv (.slice at' tu.length ct) _ _ cols key m (by omega) hc0 hk0 hmo hokk
  rw [hvT, hvR] at hadds hfinds hmatch
  unfold stepV at hfinds hmatch
  clear het hec hek
  have Xh := Lib.hid h
  have Xht := Lib.hid ht
  have Xhc := Lib.hid hc
  have Xhk := Lib.hid hk
  have Xhmo := Lib.hid hmo
  have Xhokt := Lib.hid hokt
  have Xhokk := Lib.hid hokk
  have Xk0 := Lib.hid k0
  have Xh0 := Lib.hid h0
  have Xht0 := Lib.hid ht0
  have Xhc0 := Lib.hid hc0
  have Xhk0 := Lib.hid hk0
  have XhW0 := Lib.hid hW0
  have XhvT := Lib.hid hvT
  have XhvR := Lib.hid hvR
  have XG0 := Lib.hid G0
  have Xhout := Lib.hid hout
  have Xhadds := Lib.hid hadds
  have Xhfinds := Lib.hid hfinds
  have Xhmatch := Lib.hid hmatch
  have Xn0 := Lib.hid n0
  clear h ht hc hk hmo hokt hokk k0 h0 ht0 hc0 hk0 hW0 hvT hvR G0 hout hadds hfinds hmatch n0
  have hkd : (kd = 1 ∨ kd = 2 ∨ kd = 3 ∨ kd = 4) ∨ (kd = 5 ∨ kd = 6) ∨ kd = 7 ∨ kd = 8 ∨ (kd ≠ 1 ∧ kd ≠ 2 ∧ kd ≠ 3 ∧ kd ≠ 4 ∧ kd ≠ 5 ∧ kd ≠ 6 ∧ kd ≠ 7 ∧ kd ≠ 8) := by omega
  go_enter Try.func28, Try.ntmps28
  rcases hkd with (rfl | rfl | rfl | rfl) | (rfl | rfl) | rfl | rfl | ⟨q1, q2, q3, q4, q5, q6, q7, q8⟩
  · go_wp2_with fail
    rw [XhW0.out]
    refine Xhadds.out.mono ?_
    rintro e W1 ⟨rfl, d', g, hts⟩
    have G := XG0.out.trans g
    clear g
    have XG := Lib.hid G
    have Xhts := Lib.hid hts
    clear G hts
    go_wp2_with fail
    go_ret
    exact ⟨rfl, d', XG.out, Xhts.out⟩
  · go_wp2_with fail
    rw [XhW0.out]
    refine Xhfinds.out.mono ?_
    rintro e W1 ⟨rfl, d', g, hts⟩
    have G := XG0.out.trans g
    have hts' : (tsS d').length ≤ (tsS d).length + 1 := by rw [hts]; omega
    clear g hts
    have XG := Lib.hid G
    have Xhts' := Lib.hid hts'
    clear G hts'
    go_wp2_with fail
    go_ret
    exact ⟨rfl, d', XG.out, Xhts'.out⟩
  · go_wp2_with fail
    rw [XhW0.out]
    refine Xhfinds.out.mono ?_
    rintro e W1 ⟨rfl, d', g, hts⟩
    have G := XG0.out.trans g
    have hts' : (tsS d').length ≤ (tsS d).length + 1 := by rw [hts]; omega
    clear g hts
    have XG := Lib.hid G
    have Xhts' := Lib.hid hts'
    clear G hts'
    go_wp2_with fail
    go_ret
    exact ⟨rfl, d', XG.out, Xhts'.out⟩
  · obtain ⟨Wd, hWd⟩ : ∃ Wd, W0.drew = Wd := ⟨_, rfl⟩
    have kd0 : Keep (fun _ => True) W0 Wd := by rw [← hWd]; exact Keep.drew _ _
    have zd : Wd.heap.size = W0.heap.size := by rw [← hWd]; simp
    have hS : Wd.cell? ⟨nb, 2, none⟩ = some (.int .i64 fr) ∧ Wd.cell? ⟨nb, 3, none⟩ = some (.int .i64 to) ∧ Wd.cell? ⟨nb, 4, none⟩ = some (.int .i64 lv) := ⟨kd0.cell c2 trivial, kd0.cell c3 trivial, kd0.cell c4 trivial⟩
    have hd := Xh0.out.keep kd0 (fun _ _ _ => trivial)
    have Gd := XG0.out.stay kd0 (fun _ _ => trivial)
    have hall := slotAll (d := d) (w := Wd) fr to
    rw [XhvT.out] at hall
    have hfr : ∀ b, nb ≤ b → offS d b := fun b hb => Xh.out.fresh (by omega)
    clear kd0 c1 c2 c3 c4 c5 c6 c7
    have XhS := Lib.hid hS
    have Xhd := Lib.hid hd
    have XGd := Lib.hid Gd
    have Xhall := Lib.hid hall
    have XhWd := Lib.hid hWd
    have Xhfr := Lib.hid hfr
    clear hS hd Gd hall hWd hfr
    go_wp2_with fail
    rw [XhW0.out]
    refine region_hoist rfl (fun W => W.cell? ⟨nb, 2, none⟩ = some (.int .i64 fr) ∧ W.cell? ⟨nb, 3, none⟩ = some (.int .i64 to) ∧ W.cell? ⟨nb, 4, none⟩ = some (.int .i64 lv)) [16] ?_
    rw [XhWd.out]
    refine hoist_take (i := 0) (v := ?_) rfl (by kernel_rfl) (by kernel_rfl) (by kernel_rfl) (by kernel_rfl) (fun _ _ _ h => h) XhS.out (Or.inl ⟨by rfl, ?_⟩) ?_
    rotate_left
    · intro Wq hWq
      obtain ⟨x0, x1, x2⟩ := hWq
      go_simp
      try with_reducible rfl
    try simp only [Act.put, List.getElem_toArray, List.getElem_cons_zero, List.getElem_cons_succ, List.setIfInBounds_toArray, List.set_cons_zero, List.set_cons_succ]
    refine hoist_take (i := 1) (v := ?_) rfl (by kernel_rfl) (by kernel_rfl) (by kernel_rfl) (by kernel_rfl) (fun _ _ _ h => h) XhS.out (Or.inl ⟨by rfl, ?_⟩) ?_
    rotate_left
    · intro Wq hWq
      obtain ⟨x0, x1, x2⟩ := hWq
      go_simp
      try with_reducible rfl
    try simp only [Act.put, List.getElem_toArray, List.getElem_cons_zero, List.getElem_cons_succ, List.setIfInBounds_toArray, List.set_cons_zero, List.set_cons_succ]
    refine hoist_take (i := 2) (v := ?_) rfl (by kernel_rfl) (by kernel_rfl) (by kernel_rfl) (by kernel_rfl) (fun _ _ _ h => h) XhS.out (Or.inl ⟨by rfl, ?_⟩) ?_
    rotate_left
    · intro Wq hWq
      obtain ⟨x0, x1, x2⟩ := hWq
      go_simp
      try with_reducible rfl
    try simp only [Act.put, List.getElem_toArray, List.getElem_cons_zero, List.getElem_cons_succ, List.setIfInBounds_toArray, List.set_cons_zero, List.set_cons_succ]
    refine hoist_take (i := 3) (v := ?_) rfl (by kernel_rfl) (by kernel_rfl) (by kernel_rfl) (by kernel_rfl) (fun _ _ _ h => h) XhS.out (Or.inl ⟨by rfl, ?_⟩) ?_
    rotate_left
    · intro Wq hWq
      obtain ⟨x0, x1, x2⟩ := hWq
      go_simp
      try with_reducible rfl
    try simp only [Act.put, List.getElem_toArray, List.getElem_cons_zero, List.getElem_cons_succ, List.setIfInBounds_toArray, List.set_cons_zero, List.set_cons_succ]
    refine hoist_take (i := 4) (v := ?_) rfl (by kernel_rfl) (by kernel_rfl) (by kernel_rfl) (by kernel_rfl) (fun _ _ _ h => h) XhS.out (Or.inl ⟨by rfl, ?_⟩) ?_
    rotate_left
    · intro Wq hWq
      obtain ⟨x0, x1, x2⟩ := hWq
      go_simp
      try with_reducible rfl
    try simp only [Act.put, List.getElem_toArray, List.getElem_cons_zero, List.getElem_cons_succ, List.setIfInBounds_toArray, List.set_cons_zero, List.set_cons_succ]
    refine hoist_take (i := 6) (v := ?_) rfl (by kernel_rfl) (by kernel_rfl) (by kernel_rfl) (by kernel_rfl) (fun _ _ _ h => h) XhS.out (Or.inl ⟨by rfl, ?_⟩) ?_
    rotate_left
    · intro Wq hWq
      obtain ⟨x0, x1, x2⟩ := hWq
      go_simp
      try with_reducible rfl
    try simp only [Act.put, List.getElem_toArray, List.getElem_cons_zero, List.getElem_cons_succ, List.setIfInBounds_toArray, List.set_cons_zero, List.set_cons_succ]
    refine hoist_take (i := 7) (v := ?_) rfl (by kernel_rfl) (by kernel_rfl) (by kernel_rfl) (by kernel_rfl) (fun _ _ _ h => h) XhS.out (Or.inl ⟨by rfl, ?_⟩) ?_
    rotate_left
    · intro Wq hWq
      obtain ⟨x0, x1, x2⟩ := hWq
      go_simp
      try with_reducible rfl
    try simp only [Act.put, List.getElem_toArray, List.getElem_cons_zero, List.getElem_cons_succ, List.setIfInBounds_toArray, List.set_cons_zero, List.set_cons_succ]
    refine hoist_take (i := 8) (v := ?_) rfl (by kernel_rfl) (by kernel_rfl) (by kernel_rfl) (by kernel_rfl) (fun _ _ _ h => h) XhS.out (Or.inl ⟨by rfl, ?_⟩) ?_
    rotate_left
    · intro Wq hWq
      obtain ⟨x0, x1, x2⟩ := hWq
      go_simp
      try with_reducible rfl
    try simp only [Act.put, List.getElem_toArray, List.getElem_cons_zero, List.getElem_cons_succ, List.setIfInBounds_toArray, List.set_cons_zero, List.set_cons_succ]
    refine hoist_take (i := 9) (v := ?_) rfl (by kernel_rfl) (by kernel_rfl) (by kernel_rfl) (by kernel_rfl) (fun _ _ _ h => h) XhS.out (Or.inl ⟨by rfl, ?_⟩) ?_
    rotate_left
    · intro Wq hWq
      obtain ⟨x0, x1, x2⟩ := hWq
      go_simp
      try with_reducible rfl
    try simp only [Act.put, List.getElem_toArray, List.getElem_cons_zero, List.getElem_cons_succ, List.setIfInBounds_toArray, List.set_cons_zero, List.set_cons_succ]
    refine hoist_take (i := 10) (v := ?_) rfl (by kernel_rfl) (by kernel_rfl) (by kernel_rfl) (by kernel_rfl) (fun _ _ _ h => h) XhS.out (Or.inl ⟨by rfl, ?_⟩) ?_
    rotate_left
    · intro Wq hWq
      obtain ⟨x0, x1, x2⟩ := hWq
      go_simp
      try with_reducible rfl
    try simp only [Act.put, List.getElem_toArray, List.getElem_cons_zero, List.getElem_cons_succ, List.setIfInBounds_toArray, List.set_cons_zero, List.set_cons_succ]
    refine hoist_take (i := 11) (v := ?_) rfl (by kernel_rfl) (by kernel_rfl) (by kernel_rfl) (by kernel_rfl) (fun _ _ _ h => h) XhS.out (Or.inl ⟨by rfl, ?_⟩) ?_
    rotate_left
    · intro Wq hWq
      obtain ⟨x0, x1, x2⟩ := hWq
      go_simp
      try with_reducible rfl
    try simp only [Act.put, List.getElem_toArray, List.getElem_cons_zero, List.getElem_cons_succ, List.setIfInBounds_toArray, List.set_cons_zero, List.set_cons_succ]
    refine hoist_take (i := 13) (v := ?_) rfl (by kernel_rfl) (by kernel_rfl) (by kernel_rfl) (by kernel_rfl) (fun _ _ _ h => h) XhS.out (Or.inl ⟨by rfl, ?_⟩) ?_
    rotate_left
    · intro Wq hWq
      obtain ⟨x0, x1, x2⟩ := hWq
      go_simp
      try with_reducible rfl
    try simp only [Act.put, List.getElem_toArray, List.getElem_cons_zero, List.getElem_cons_succ, List.setIfInBounds_toArray, List.set_cons_zero, List.set_cons_succ]
    refine hoist_take (i := 14) (v := ?_) rfl (by kernel_rfl) (by kernel_rfl) (by kernel_rfl) (by kernel_rfl) (fun _ _ _ h => h) XhS.out (Or.inl ⟨by rfl, ?_⟩) ?_
    rotate_left
    · intro Wq hWq
      obtain ⟨x0, x1, x2⟩ := hWq
      go_simp
      try with_reducible rfl
    try simp only [Act.put, List.getElem_toArray, List.getElem_cons_zero, List.getElem_cons_succ, List.setIfInBounds_toArray, List.set_cons_zero, List.set_cons_succ]
    refine hoist_one (i := 5) rfl (by kernel_rfl) (fun K hK => ?_)
    have XhK0 := Lib.hid hK
    clear hK
    go_wp2_with fail
    refine Xhall.out.mono ?_
    rintro e W1 ⟨gf, lb, rfl, k1, hit⟩
    have z1 := k1.size
    have h1 := Xhd.out.keep k1 (fun _ _ _ => trivial)
    have G1 := XGd.out.stay k1 (fun _ _ => trivial)
    have hS1 : W1.cell? ⟨nb, 2, none⟩ = some (.int .i64 fr) ∧ W1.cell? ⟨nb, 3, none⟩ = some (.int .i64 to) ∧ W1.cell? ⟨nb, 4, none⟩ = some (.int .i64 lv) := ⟨k1.cell XhS.out.1 trivial, k1.cell XhS.out.2.1 trivial, k1.cell XhS.out.2.2 trivial⟩
    have hra := slotRefAll h1 fr to
    rw [XhvR.out] at hra
    clear k1
    have Xh1 := Lib.hid h1
    have XG1 := Lib.hid G1
    have XhS1 := Lib.hid hS1
    have Xhra := Lib.hid hra
    have Xhit := Lib.hid hit
    clear h1 G1 hS1 hra hit
    go_wp2_with fail
    refine XhK0.out _ _ (fun _ => XhS1.out) ?_
    refine hoist_one (i := 12) rfl (by kernel_rfl) (fun K hK => ?_)
    have XhK1 := Lib.hid hK
    clear hK
    go_wp2_with fail
    refine Xhra.out.mono ?_
    rintro e W2 ⟨vw, rfl, k2, hpv⟩
    obtain ⟨aw, cw, hvw⟩ := own_form hpv.1
    subst hvw
    have z2 := k2.size
    have h2 := Xh1.out.keep k2 (fun b hb _ => hb)
    have G2 := XG1.out.stay k2 (fun b hb => hb)
    have hit2 := SlotIt.stay Xhit.out k2 (fun b _ hb => hb)
    have hS2 : W2.cell? ⟨nb, 2, none⟩ = some (.int .i64 fr) ∧ W2.cell? ⟨nb, 3, none⟩ = some (.int .i64 to) ∧ W2.cell? ⟨nb, 4, none⟩ = some (.int .i64 lv) := ⟨k2.cell XhS1.out.1 (by simp only; omega), k2.cell XhS1.out.2.1 (by simp only; omega), k2.cell XhS1.out.2.2 (by simp only; omega)⟩
    have hgo := slotGoes h2 lv hit2 (fun b hb => Xhfr.out b (by omega)) _ hpv (fun b hb => Xhfr.out b (by have := (World.ownsRow.lt hpv.1 b hb).1; omega))
    rw [XhvR.out] at hgo
    clear k2 hit2 hpv h2
    have XG2 := Lib.hid G2
    have XhS2 := Lib.hid hS2
    have Xhgo := Lib.hid hgo
    clear G2 hS2 hgo
    go_wp2_with fail
    refine XhK1.out _ _ (fun _ => XhS2.out) ?_
    refine hoist_one (i := 15) rfl (by kernel_rfl) (fun K hK => ?_)
    have XhK2 := Lib.hid hK
    clear hK
    go_wp2_with fail
    refine Xhgo.out.mono ?_
    rintro e W3 ⟨rfl, d', g, hts⟩
    have G := XG2.out.trans g
    have hts' : (tsS d').length ≤ (tsS d).length + 1 := by rw [hts]; omega
    have hS3 : W3.cell? ⟨nb, 2, none⟩ = some (.int .i64 fr) ∧ W3.cell? ⟨nb, 3, none⟩ = some (.int .i64 to) ∧ W3.cell? ⟨nb, 4, none⟩ = some (.int .i64 lv) := by
      have ho : outS d nb ∧ nb < W2.heap.size := ⟨Xh0.out.off_out (Xhfr.out nb (Nat.le_refl _)), by omega⟩
      exact ⟨g.keep.cell XhS2.out.1 ho, g.keep.cell XhS2.out.2.1 ho, g.keep.cell XhS2.out.2.2 ho⟩
    clear g hts
    have XG := Lib.hid G
    have Xhts' := Lib.hid hts'
    have XhS3 := Lib.hid hS3
    clear G hts' hS3
    go_wp2_with fail
    refine XhK2.out _ _ (fun _ => XhS3.out) ?_
    refine hoist_one (i := 16) rfl (by kernel_rfl) (fun K hK => ?_)
    have XhK3 := Lib.hid hK
    clear hK
    go_wp2_with fail
    refine XhK3.out _ _ (fun h => by simp at h) ?_
    refine hoist_done (by kernel_rfl) ?_
    go_wp2_with fail
    go_ret
    exact ⟨rfl, d', XG.out, Xhts'.out⟩
  · go_wp2_with fail
    rw [XhW0.out]
    refine Xhmatch.out.mono ?_
    rintro e W1 ⟨rfl, d', g, hts⟩
    have G := XG0.out.trans g
    have hts' : (tsS d').length ≤ (tsS d).length + 1 := by rw [hts]; omega
    clear g hts
    have XG := Lib.hid G
    have Xhts' := Lib.hid hts'
    clear G hts'
    go_wp2_with fail
    go_ret
    exact ⟨rfl, d', XG.out, Xhts'.out⟩
  · go_wp2_with fail
    rw [XhW0.out]
    refine Xhmatch.out.mono ?_
    rintro e W1 ⟨rfl, d', g, hts⟩
    have G := XG0.out.trans g
    have hts' : (tsS d').length ≤ (tsS d).length + 1 := by rw [hts]; omega
    clear g hts
    have XG := Lib.hid G
    have Xhts' := Lib.hid hts'
    clear G hts'
    go_wp2_with fail
    go_ret
    exact ⟨rfl, d', XG.out, Xhts'.out⟩
  · have hlent := lent_any m _ cols W0 Xhc0.out (by omega)
    clear c1 c2 c3 c4 c5 c7
    have Xhlent := Lib.hid hlent
    clear hlent
    go_wp2_with fail
    rw [XhW0.out]
    refine Xhlent.out.mono ?_
    rintro e W1 ⟨v1, rfl, k1, hL1⟩
    have z1 := k1.size
    have h1 := Xh0.out.keep k1 (fun b hb _ => hb)
    have n1 := k1.heap Xn0.out l0
    have G1 := XG0.out.stay k1 (fun b hb => hb)
    have hc1 := ints_stay Xhc0.out (m := m) (k1.mono fun b _ h => by omega) (Nat.le_refl _)
    obtain ⟨g1, cap1, rfl, ho1⟩ := id hL1
    have hg1 := own_cap ho1
    have hdi := slotDistinct h1 _ cols (hL1.lends hlc (fun b hb => Xh.out.fresh (by simp only [Value.ownBlock, Option.some.injEq] at hb; omega)))
    obtain ⟨q1, hq1⟩ : ∃ q, (dstS d cols).1 = q := ⟨_, rfl⟩
    obtain ⟨q2, hq2⟩ : ∃ q, (dstS d cols).2 = q := ⟨_, rfl⟩
    rw [hq1, hq2, XhvT.out] at hdi
    clear k1 ho1 c6 Xn0
    have Xh1 := Lib.hid h1
    have Xn1 := Lib.hid n1
    have XG1 := Lib.hid G1
    have Xhc1 := Lib.hid hc1
    have XhL1 := Lib.hid hL1
    have Xhdi := Lib.hid hdi
    have Xhq1 := Lib.hid hq1
    have Xhq2 := Lib.hid hq2
    clear h1 n1 G1 hc1 hL1 hdi hq1 hq2
    go_wp2_with fail
    refine Xhdi.out.mono ?_
    rintro e W2 ⟨rfl, d1, g, hts⟩
    have z2 := g.keep.size
    have h2 := g.here
    have hnbo : outS d nb ∧ nb < W1.heap.size := ⟨Xh0.out.off_out (Xh.out.fresh (by omega)), by omega⟩
    have n2 := g.keep.heap Xn1.out hnbo
    have hc2 := ints_stay Xhc1.out (m := m) (g.keep.mono fun b _ h => ⟨Xhout.out b h, by omega⟩) (Nat.le_refl _)
    have hL2 := XhL1.out.keep1 g.keep (fun b hb => by
      simp only [Value.ownBlock, Option.some.injEq] at hb
      exact ⟨Xh0.out.off_out (Xh.out.fresh (by omega)), by omega⟩)
    have G2 := XG1.out.trans g
    have hrd := slotRefDistinct h2 _ cols (ints_wider hc2 (by omega))
    have hr1 : rV d1 = vR := g.on.r.trans XhvR.out
    rw [g.on.dst hts, Xhq1.out, Xhq2.out, hr1] at hrd
    have hts' : (tsS d1).length ≤ (tsS d).length + 1 := by rw [hts]; omega
    have c6 := cells_of_block n2 6 _ rfl
    simp only [Nat.zero_add] at c6
    have l2 : nb < W2.heap.size := by omega
    clear g hts Xn1 Xhc1 XhL1 XG1 Xh1
    have Xh2 := Lib.hid h2
    have Xn2 := Lib.hid n2
    have Xhc2 := Lib.hid hc2
    have XhL2 := Lib.hid hL2
    have XG2 := Lib.hid G2
    have Xhrd := Lib.hid hrd
    have Xhts' := Lib.hid hts'
    clear h2 n2 hc2 hL2 G2 hrd hts'
    go_wp2_with fail
    refine Xhrd.out.mono ?_
    rintro e W3 ⟨rfl, k3⟩
    have z3 := k3.size
    have n3 := k3.heap Xn2.out l2
    have hc3 := ints_stay Xhc2.out (m := m) (k3.mono fun b _ h => by omega) (Nat.le_refl _)
    have hL3 := XhL2.out.keep1 k3 (fun b hb => by
      simp only [Value.ownBlock, Option.some.injEq] at hb
      omega)
    have G3 := XG2.out.stay k3 (fun b hb => hb)
    have hleft := left_any m _ _ _ cols W3 hL3 hc3 (by omega) hlc
    have c6' := cells_of_block n3 6 _ rfl
    simp only [Nat.zero_add] at c6'
    have l3 : nb < W3.heap.size := by omega
    clear k3 Xn2 Xhc2 XhL2 XG2 Xh2 c6 n3 hc3 hL3
    have XG3 := Lib.hid G3
    have Xhleft := Lib.hid hleft
    clear G3 hleft
    go_wp2_with fail
    refine (num_any _ _).mono ?_
    rintro e w1 ⟨rfl, hw1⟩
    have hw1 := hw1.symm
    subst hw1
    go_wp2_with fail
    refine Xhleft.out.mono ?_
    rintro e W4 ⟨rfl, k4⟩
    have G4 := XG3.out.stay k4 (fun _ _ => trivial)
    clear k4
    have XG4 := Lib.hid G4
    clear G4
    go_wp2_with fail
    go_ret
    exact ⟨rfl, d1, XG4.out, Xhts'.out⟩
  · have hl1 := slotLen Xh0.out
    have hl2 := slotRefLen Xh0.out
    have hl3 := slotArity Xh0.out
    have hl4 := slotRefArity Xh0.out
    rw [XhvT.out] at hl1 hl3
    rw [XhvR.out] at hl2 hl4
    obtain ⟨q1, hq1⟩ : ∃ q : Int, ((tsS d).length : Int) = q := ⟨_, rfl⟩
    obtain ⟨q2, hq2⟩ : ∃ q, arS d = q := ⟨_, rfl⟩
    rw [hq1] at hl1 hl2
    rw [hq2] at hl3 hl4
    clear c1 c2 c3 c4 c5 c6 c7
    have Xhl1 := Lib.hid hl1
    have Xhl2 := Lib.hid hl2
    have Xhl3 := Lib.hid hl3
    have Xhl4 := Lib.hid hl4
    have Xhq1 := Lib.hid hq1
    have Xhq2 := Lib.hid hq2
    clear hl1 hl2 hl3 hl4 hq1 hq2
    go_wp2_with fail
    rw [XhW0.out]
    refine Xhl1.out.mono ?_
    rintro e w1 ⟨rfl, hw1⟩
    have hw1 := hw1.symm
    subst hw1
    go_wp2_with fail
    refine Xhl2.out.mono ?_
    rintro e w1 ⟨rfl, hw1⟩
    have hw1 := hw1.symm
    subst hw1
    go_wp2_with fail
    refine Xhl3.out.mono ?_
    rintro e w1 ⟨rfl, hw1⟩
    have hw1 := hw1.symm
    subst hw1
    go_wp2_with fail
    refine Xhl4.out.mono ?_
    rintro e w1 ⟨rfl, hw1⟩
    have hw1 := hw1.symm
    subst hw1
    go_wp2_with fail
    go_ret
    exact ⟨rfl, d, XG0.out, by omega⟩
  · have e1 : (kd == 1) = false := beq_eq_false_iff_ne.2 q1
    have e2 : (kd == 2) = false := beq_eq_false_iff_ne.2 q2
    have e3 : (kd == 3) = false := beq_eq_false_iff_ne.2 q3
    have e4 : (kd == 4) = false := beq_eq_false_iff_ne.2 q4
    have e5 : (kd == 5) = false := beq_eq_false_iff_ne.2 q5
    have e6 : (kd == 6) = false := beq_eq_false_iff_ne.2 q6
    have e7 : (kd == 7) = false := beq_eq_false_iff_ne.2 q7
    have e8 : (kd == 8) = false := beq_eq_false_iff_ne.2 q8
    clear q1 q2 q3 q4 q5 q6 q7 q8
    go_wp2_with fail
    rw [XhW0.out]
    go_ret
    exact ⟨rfl, d, XG0.out, by omega⟩
end Go.Proofs
