/- Layer 4, the law RelationPlays: matches. -/
import Derived.Test.YtbaemcmagkmjiaaProg
import Derived.Test.YtbaemcmagkmjiaaPlayL
import Derived.Test.YtbaemcmagkmjiaaOwnToRowC
namespace Go.Proofs
open Go.RowKit Go.Ink
set_option linter.unusedVariables false
set_option linter.unusedSimpArgs false
attribute [local go_sem] Oper.semAt_some

theorem LentIn.keep1 {base : Nat} {w w' : World} {v : Value} {l : List Int} {C : Nat → Prop} (h : LentIn base w v l) (hK : Keep C w w') (hC : ∀ b, v.ownBlock = some b → C b) : LentIn base w' v l := by
  obtain ⟨g, cap, rfl, ho⟩ := h
  exact ⟨g, cap, rfl, own_kept ho hK (fun b hb => hC b hb)⟩
theorem LentIn.loose {base : Nat} {w : World} {v : Value} {l : List Int} (h : LentIn base w v l) : LooseIn w 3 v l.length := by
  obtain ⟨g, cap, rfl, ho⟩ := h
  rcases ho.2 with ⟨h1, _⟩ | ⟨g2, c2, cur, h1, _, h3, h4, h5, h6, _⟩
  · cases h1
  · injection h1 with q1 q2 q3
    injection q1 with q1
    injection q1 with q1
    subst q1
    subst q3
    exact .inr ⟨_, _, cur, rfl, h3, by omega, h5, by omega⟩
theorem LentIn.lends {d : Option SlotD} {base : Nat} {w : World} {v : Value} {l : List Int} (h : LentIn base w v l) (hl : l.length ≤ 1073741824) (ho : ∀ b, v.ownBlock = some b → offS d b) : Lends d w v l := by
  refine ⟨LentIn.ints h hl, fun a n c e => ?_⟩
  obtain ⟨g, cap, rfl, ho'⟩ := h
  have hc := own_cap ho'
  injection e with e1
  injection e1 with e1
  subst e1
  exact ⟨ho g rfl, hc.2.2.1⟩

/-- what matches goes on to use -/
structure MBag (nb m g1 g2 cap1 cap2 b1 b2 base : Nat) (cells : List Value) (vC vK vw : Value) (cols key : List Int) (pl : List Nat) (W : World) : Prop where
  n : W.heap[nb]? = some (.cells cells.toArray 61 (0, 0))
  c : IntsIn m W vC cols
  k : IntsIn m W vK key
  l1 : LentIn b1 W (.slice (some ⟨g1, 0, none⟩) cols.length cap1) cols
  l2 : LentIn b2 W (.slice (some ⟨g2, 0, none⟩) key.length cap2) key
  p : W.ownsRow base 3 1 vw pl.length (pl.map natV)
theorem MBag.keep {nb m g1 g2 cap1 cap2 b1 b2 base : Nat} {cells : List Value} {vC vK vw : Value} {cols key : List Int} {pl : List Nat} {W W' : World} {C : Nat → Prop} (h : MBag nb m g1 g2 cap1 cap2 b1 b2 base cells vC vK vw cols key pl W) (hK : Keep C W W')
    (hC : ∀ b, b = nb ∨ b < m ∨ b = g1 ∨ b = g2 ∨ vw.ownBlock = some b → C b) : MBag nb m g1 g2 cap1 cap2 b1 b2 base cells vC vK vw cols key pl W' :=
  ⟨hK.heap h.n (hC _ (.inl rfl)), ints_stay h.c (m := m) (hK.mono fun b _ hb => hC b (.inr (.inl hb))) (Nat.le_refl _), ints_stay h.k (m := m) (hK.mono fun b _ hb => hC b (.inr (.inl hb))) (Nat.le_refl _),
    h.l1.keep1 hK (fun b hb => hC b (by simp only [Value.ownBlock, Option.some.injEq] at hb; exact .inr (.inr (.inl hb.symm)))), h.l2.keep1 hK (fun b hb => hC b (by simp only [Value.ownBlock, Option.some.injEq] at hb; exact .inr (.inr (.inr (.inl hb.symm))))), own_kept h.p hK (fun b hb => hC b (.inr (.inr (.inr (.inr hb)))))⟩
theorem PlaceV.on {d d' : Option SlotD} {base m : Nat} {w : World} {v : Value} {pl : List Nat} (h : PlaceV d base w v pl) (g : SlotOn d d' m) : d' = none → v = .slice none 0 0 := fun e => by
  subst e
  cases d with
  | none => exact h.2 rfl
  | some x => exact g.elim

set_option maxRecDepth 100000 in
set_option maxHeartbeats 8000000 in
theorem matches_any {d : Option SlotD} {w : World} (h : SlotAt d w) (kd wh fr to lv : Int) (vt vc vk : Value) (cols key : List Int) (m : Nat) (hm : m ≤ w.heap.size) (hc : IntsIn m w vc cols) (hk : IntsIn m w vk key) (hmo : ∀ b, b < m → offS d b) (hok : okT key) :
    Calls Try.prog 46 #[tV d, rV d, stepV kd wh fr to lv vt vc vk] w fun e w' => e = .returned (.bool true) ∧ ∃ d', SlotGo d w d' w' ∧ tsS d' = tsS d := by
  obtain ⟨ac, cc, rfl, hlc, hcc, hec⟩ := id hc
  obtain ⟨ak, ck, rfl, hlk, hck, hek⟩ := id hk
  obtain ⟨vT, hvT⟩ : ∃ v, tV d = v := ⟨_, rfl⟩
  obtain ⟨vR, hvR⟩ : ∃ v, rV d = v := ⟨_, rfl⟩
  rw [hvT, hvR]
  unfold stepV
  obtain ⟨W0, hW0⟩ : ∃ W0, w.alloc (.cells #[.int .i64 kd, .int .i64 wh, .int .i64 fr, .int .i64 to, .int .i64 lv, vt, .slice ac cols.length cc, .slice ak key.length ck] 61) = W0 := ⟨_, rfl⟩
  obtain ⟨nb, hnb⟩ : ∃ nb, w.heap.size = nb := ⟨_, rfl⟩
  obtain ⟨Wd, hWd⟩ : ∃ Wd, W0.drew = Wd := ⟨_, rfl⟩
  have k0 : Keep (fun _ => True) w Wd := by rw [← hWd, ← hW0]; exact (Keep.alloc _ _ _).trans (Keep.drew _ _)
  have n0 : Wd.heap[nb]? = some (.cells #[.int .i64 kd, .int .i64 wh, .int .i64 fr, .int .i64 to, .int .i64 lv, vt, .slice ac cols.length cc, .slice ak key.length ck] 61 (0, 0)) := by rw [← hWd, ← hW0, ← hnb]; exact new_block _ _
  have h0 := h.keep k0 (fun _ _ _ => trivial)
  have hc0 := ints_stay hc (m := m) (k0.mono fun _ _ _ => trivial) (Nat.le_refl _)
  have hk0 := ints_stay hk (m := m) (k0.mono fun _ _ _ => trivial) (Nat.le_refl _)
  have z0 : Wd.heap.size = nb + 1 := by rw [← hWd, ← hW0, ← hnb]; simp
  have l0 : nb < Wd.heap.size := by omega
  have hlC := lent_any m _ cols Wd hc0 (by omega)
  have hS : Wd.cell? ⟨nb, 6, none⟩ = some (.slice ac cols.length cc) ∧ Wd.cell? ⟨nb, 7, none⟩ = some (.slice ak key.length ck) := by
    have c6 := cells_of_block n0 6 _ rfl
    have c7 := cells_of_block n0 7 _ rfl
    simp only [Nat.zero_add] at c6 c7
    exact ⟨c6, c7⟩
  have hnbo : offS d nb := h.fresh (by omega)
  have hfr : ∀ b, nb ≤ b → offS d b := fun b hb => h.fresh (by omega)
  clear hec hek
  have Xh := Lib.hid h
  have Xhc := Lib.hid hc
  have Xhk := Lib.hid hk
  have Xhmo := Lib.hid hmo
  have Xhok := Lib.hid hok
  have Xk0 := Lib.hid k0
  have Xn0 := Lib.hid n0
  have Xh0 := Lib.hid h0
  have Xhc0 := Lib.hid hc0
  have Xhk0 := Lib.hid hk0
  have XhlC := Lib.hid hlC
  have XhW0 := Lib.hid hW0
  have XhWd := Lib.hid hWd
  have XhvT := Lib.hid hvT
  have XhvR := Lib.hid hvR
  have XhS := Lib.hid hS
  have Xhnbo := Lib.hid hnbo
  have Xhfr := Lib.hid hfr
  clear h hc hk hmo hok k0 n0 h0 hc0 hk0 hlC hW0 hWd hvT hvR hS hnbo hfr
  go_enter Try.func46, Try.ntmps46
  go_wp2_with fail
  rw [XhW0.out]
  refine region_hoist rfl (fun W => W.cell? ⟨nb, 6, none⟩ = some (.slice ac cols.length cc) ∧ W.cell? ⟨nb, 7, none⟩ = some (.slice ak key.length ck)) [7] ?_
  rw [XhWd.out]
  refine hoist_take (i := 0) (v := ?_) rfl (by kernel_rfl) (by kernel_rfl) (by kernel_rfl) (by kernel_rfl) (fun _ _ _ h => h) XhS.out (Or.inl ⟨by rfl, ?_⟩) ?_
  rotate_left
  · intro Wq hWq
    obtain ⟨x0, x1⟩ := hWq
    go_simp
    try with_reducible rfl
  try simp only [Act.put, List.getElem_toArray, List.getElem_cons_zero, List.getElem_cons_succ, List.setIfInBounds_toArray, List.set_cons_zero, List.set_cons_succ]
  refine hoist_take (i := 1) (v := ?_) rfl (by kernel_rfl) (by kernel_rfl) (by kernel_rfl) (by kernel_rfl) (fun _ _ _ h => h) XhS.out (Or.inl ⟨by rfl, ?_⟩) ?_
  rotate_left
  · intro Wq hWq
    obtain ⟨x0, x1⟩ := hWq
    go_simp
    try with_reducible rfl
  try simp only [Act.put, List.getElem_toArray, List.getElem_cons_zero, List.getElem_cons_succ, List.setIfInBounds_toArray, List.set_cons_zero, List.set_cons_succ]
  refine hoist_take (i := 3) (v := ?_) rfl (by kernel_rfl) (by kernel_rfl) (by kernel_rfl) (by kernel_rfl) (fun _ _ _ h => h) XhS.out (Or.inl ⟨by rfl, ?_⟩) ?_
  rotate_left
  · intro Wq hWq
    obtain ⟨x0, x1⟩ := hWq
    go_simp
    try with_reducible rfl
  try simp only [Act.put, List.getElem_toArray, List.getElem_cons_zero, List.getElem_cons_succ, List.setIfInBounds_toArray, List.set_cons_zero, List.set_cons_succ]
  refine hoist_take (i := 4) (v := ?_) rfl (by kernel_rfl) (by kernel_rfl) (by kernel_rfl) (by kernel_rfl) (fun _ _ _ h => h) XhS.out (Or.inl ⟨by rfl, ?_⟩) ?_
  rotate_left
  · intro Wq hWq
    obtain ⟨x0, x1⟩ := hWq
    go_simp
    try with_reducible rfl
  try simp only [Act.put, List.getElem_toArray, List.getElem_cons_zero, List.getElem_cons_succ, List.setIfInBounds_toArray, List.set_cons_zero, List.set_cons_succ]
  refine hoist_one (i := 2) rfl (by kernel_rfl) (fun K hK => ?_)
  have XhK0 := Lib.hid hK
  clear hK
  go_wp2_with fail
  refine XhlC.out.mono ?_
  rintro e W1 ⟨v1, rfl, k1, hL1⟩
  have z1 := k1.size
  have hS1 : W1.cell? ⟨nb, 6, none⟩ = some (.slice ac cols.length cc) ∧ W1.cell? ⟨nb, 7, none⟩ = some (.slice ak key.length ck) := ⟨k1.cell XhS.out.1 l0, k1.cell XhS.out.2 l0⟩
  have hk1 := ints_stay Xhk0.out (m := m) (k1.mono fun b _ h => by omega) (Nat.le_refl _)
  have hlK := lent_any m _ key W1 hk1 (by omega)
  obtain ⟨g1, cap1, rfl, ho1⟩ := id hL1
  have hg1 := own_cap ho1
  clear ho1
  have Xk1 := Lib.hid k1
  have XhL1 := Lib.hid hL1
  have XhS1 := Lib.hid hS1
  have Xhk1 := Lib.hid hk1
  have XhlK := Lib.hid hlK
  clear k1 hL1 hS1 hk1 hlK
  go_wp2_with fail
  refine XhK0.out _ _ (fun _ => XhS1.out) ?_
  refine hoist_one (i := 5) rfl (by kernel_rfl) (fun K hK => ?_)
  have XhK1 := Lib.hid hK
  clear hK
  go_wp2_with fail
  refine XhlK.out.mono ?_
  rintro e W2 ⟨v2, rfl, k2, hL2⟩
  have z2 := k2.size
  have hS2 : W2.cell? ⟨nb, 6, none⟩ = some (.slice ac cols.length cc) ∧ W2.cell? ⟨nb, 7, none⟩ = some (.slice ak key.length ck) := ⟨k2.cell XhS1.out.1 (by simp only; omega), k2.cell XhS1.out.2 (by simp only; omega)⟩
  obtain ⟨g2, cap2, rfl, ho2⟩ := id hL2
  have hg2 := own_cap ho2
  clear ho2
  have kd2 : Keep (fun b => b < Wd.heap.size) Wd W2 := Xk1.out.trans (k2.mono fun b _ h => by omega)
  have h2 := Xh0.out.keep kd2 (fun b hb _ => hb)
  have n2 := kd2.heap Xn0.out l0
  have hc2 := ints_stay Xhc0.out (m := m) (kd2.mono fun b _ h => by omega) (Nat.le_refl _)
  have hk2 := ints_stay Xhk0.out (m := m) (kd2.mono fun b _ h => by omega) (Nat.le_refl _)
  have hL12 := XhL1.out.keep1 k2 (fun b hb => by simp only [Value.ownBlock, Option.some.injEq] at hb; omega)
  have c2 := cells_of_block n2 2 _ rfl
  have c3 := cells_of_block n2 3 _ rfl
  have c4 := cells_of_block n2 4 _ rfl
  have c6 := cells_of_block n2 6 _ rfl
  have c7 := cells_of_block n2 7 _ rfl
  simp only [Nat.zero_add] at c2 c3 c4 c6 c7
  have l2 : nb < W2.heap.size := by omega
  have hrm := slotRefMatch h2 _ _ cols key fr to (ints_wider hc2 (by omega)) (ints_wider hk2 (by omega))
  rw [XhvR.out] at hrm
  have k02 : Keep (fun b => b < w.heap.size) w W2 := (Xk0.out.mono fun _ _ _ => trivial).trans (kd2.mono fun b _ h => by omega)
  clear k2 kd2
  have Xh2 := Lib.hid h2
  have Xn2 := Lib.hid n2
  have Xhc2 := Lib.hid hc2
  have Xhk2 := Lib.hid hk2
  have XhL12 := Lib.hid hL12
  have XhL2 := Lib.hid hL2
  have Xhrm := Lib.hid hrm
  have Xk02 := Lib.hid k02
  have XhS2 := Lib.hid hS2
  clear h2 n2 hc2 hk2 hL12 hL2 hrm k02 hS2
  go_wp2_with fail
  refine XhK1.out _ _ (fun _ => XhS2.out) ?_
  refine hoist_one (i := 6) rfl (by kernel_rfl) (fun K hK => ?_)
  have XhK2 := Lib.hid hK
  clear hK
  go_wp2_with fail
  refine XhK2.out _ _ (fun _ => XhS2.out) ?_
  refine hoist_one (i := 7) rfl (by kernel_rfl) (fun K hK => ?_)
  have XhK3 := Lib.hid hK
  clear hK
  go_wp2_with fail
  refine XhK3.out _ _ (fun h => by simp at h) ?_
  refine hoist_done (by kernel_rfl) ?_
  clear XhK0 XhK1 XhK2 XhK3 XhS XhS1 XhS2 XhlC XhlK XhL1 Xhk1 Xk1 Xh0 Xn0 Xhc0 Xhk0
  go_wp2_with fail
  refine Xhrm.out.mono ?_
  rintro e W3 ⟨vw, rfl, k3, hpv⟩
  obtain ⟨aw, cw, hvw⟩ := own_form hpv.1
  subst hvw
  obtain ⟨W3d, hW3d⟩ : ∃ W3d, W3.drew = W3d := ⟨_, rfl⟩
  have z3 := k3.size
  have k3d : Keep (fun b => b < W2.heap.size) W2 W3d := by rw [← hW3d]; exact k3.trans (Keep.drew _ _)
  have z3d : W3d.heap.size = W3.heap.size := by rw [← hW3d]; simp
  have h3 := Xh2.out.keep k3d (fun b hb _ => hb)
  have n3 := k3d.heap Xn2.out l2
  have hc3 := ints_stay Xhc2.out (m := m) (k3d.mono fun b _ h => by omega) (Nat.le_refl _)
  have hk3 := ints_stay Xhk2.out (m := m) (k3d.mono fun b _ h => by omega) (Nat.le_refl _)
  have hL13 := XhL12.out.keep1 k3d (fun b hb => by simp only [Value.ownBlock, Option.some.injEq] at hb; omega)
  have hL23 := XhL2.out.keep1 k3d (fun b hb => by simp only [Value.ownBlock, Option.some.injEq] at hb; omega)
  obtain ⟨pl, hpl⟩ : ∃ pl, plS d cols key fr to = pl := ⟨_, rfl⟩
  rw [hpl] at hpv
  have hwo : ∀ b, Value.ownBlock (.slice aw pl.length cw) = some b → W2.heap.size ≤ b ∧ b < W3.heap.size := fun b hb => World.ownsRow.lt hpv.1 b hb
  have hpv3 : PlaceV d W2.heap.size W3d (.slice aw pl.length cw) pl := ⟨own_kept hpv.1 (show Keep (fun _ => True) W3 W3d by rw [← hW3d]; exact Keep.drew _ _) (fun _ _ => trivial), hpv.2⟩
  rw [hpl]
  have hS : W3d.cell? ⟨nb, 2, none⟩ = some (.int .i64 fr) ∧ W3d.cell? ⟨nb, 3, none⟩ = some (.int .i64 to) ∧ W3d.cell? ⟨nb, 4, none⟩ = some (.int .i64 lv) := by
    have c2 := cells_of_block n3 2 _ rfl
    have c3 := cells_of_block n3 3 _ rfl
    have c4 := cells_of_block n3 4 _ rfl
    simp only [Nat.zero_add] at c2 c3 c4
    exact ⟨c2, c3, c4⟩
  have hmt := slotMatch (d := d) (w := W3d) _ _ cols key fr to (LentIn.ints hL13 hlc) (LentIn.ints hL23 hlk) Xhok.out
  rw [XhvT.out] at hmt
  have k03 : Keep (fun b => b < w.heap.size) w W3d := Xk02.out.trans (k3d.mono fun b _ h => by omega)
  have l3 : nb < W3d.heap.size := by omega
  clear k3 k3d hpv Xh2 Xn2 Xhc2 Xhk2 XhL12 XhL2 Xk02 c2 c3 c4 c6 c7 Xhrm
  have Xh3 := Lib.hid h3
  have Xn3 := Lib.hid n3
  have Xhc3 := Lib.hid hc3
  have Xhk3 := Lib.hid hk3
  have XhL13 := Lib.hid hL13
  have XhL23 := Lib.hid hL23
  have Xhpl := Lib.hid hpl
  have Xhwo := Lib.hid hwo
  have Xhpv3 := Lib.hid hpv3
  have XhS := Lib.hid hS
  have Xhmt := Lib.hid hmt
  have Xk03 := Lib.hid k03
  have XhW3d := Lib.hid hW3d
  clear h3 n3 hc3 hk3 hL13 hL23 hpl hwo hpv3 hS hmt k03 hW3d
  go_wp2_with fail
  refine region_hoist rfl (fun W => W.cell? ⟨nb, 2, none⟩ = some (.int .i64 fr) ∧ W.cell? ⟨nb, 3, none⟩ = some (.int .i64 to) ∧ W.cell? ⟨nb, 4, none⟩ = some (.int .i64 lv)) [] ?_
  rw [XhW3d.out]
  refine hoist_take (i := 0) (v := ?_) rfl (by kernel_rfl) (by kernel_rfl) (by kernel_rfl) (by kernel_rfl) (fun _ _ _ h => h) XhS.out (Or.inl ⟨by rfl, ?_⟩) ?_
  rotate_left
  · intro Wq hWq
    obtain ⟨x0, x1, x2⟩ := hWq
    go_simp
    try with_reducible rfl
  try simp only [Act.put, List.getElem_toArray, List.getElem_cons_zero, List.getElem_cons_succ, List.setIfInBounds_toArray, List.set_cons_zero, List.set_cons_succ]
  refine hoist_take (i := 1) (v := ?_) rfl (by kernel_rfl) (by kernel_rfl) (by kernel_rfl) (by kernel_rfl) (fun _ _ _ h => h) XhS.out (Or.inl ⟨by rfl, ?_⟩) ?_
  rotate_left
  · intro Wq hWq
    obtain ⟨x0, x1, x2⟩ := hWq
    go_simp
    try with_reducible rfl
  try simp only [Act.put, List.getElem_toArray, List.getElem_cons_zero, List.getElem_cons_succ, List.setIfInBounds_toArray, List.set_cons_zero, List.set_cons_succ]
  refine hoist_take (i := 2) (v := ?_) rfl (by kernel_rfl) (by kernel_rfl) (by kernel_rfl) (by kernel_rfl) (fun _ _ _ h => h) XhS.out (Or.inl ⟨by rfl, ?_⟩) ?_
  rotate_left
  · intro Wq hWq
    obtain ⟨x0, x1, x2⟩ := hWq
    go_simp
    try with_reducible rfl
  try simp only [Act.put, List.getElem_toArray, List.getElem_cons_zero, List.getElem_cons_succ, List.setIfInBounds_toArray, List.set_cons_zero, List.set_cons_succ]
  refine hoist_take (i := 3) (v := ?_) rfl (by kernel_rfl) (by kernel_rfl) (by kernel_rfl) (by kernel_rfl) (fun _ _ _ h => h) XhS.out (Or.inl ⟨by rfl, ?_⟩) ?_
  rotate_left
  · intro Wq hWq
    obtain ⟨x0, x1, x2⟩ := hWq
    go_simp
    try with_reducible rfl
  try simp only [Act.put, List.getElem_toArray, List.getElem_cons_zero, List.getElem_cons_succ, List.setIfInBounds_toArray, List.set_cons_zero, List.set_cons_succ]
  refine hoist_take (i := 4) (v := ?_) rfl (by kernel_rfl) (by kernel_rfl) (by kernel_rfl) (by kernel_rfl) (fun _ _ _ h => h) XhS.out (Or.inl ⟨by rfl, ?_⟩) ?_
  rotate_left
  · intro Wq hWq
    obtain ⟨x0, x1, x2⟩ := hWq
    go_simp
    try with_reducible rfl
  try simp only [Act.put, List.getElem_toArray, List.getElem_cons_zero, List.getElem_cons_succ, List.setIfInBounds_toArray, List.set_cons_zero, List.set_cons_succ]
  refine hoist_take (i := 5) (v := ?_) rfl (by kernel_rfl) (by kernel_rfl) (by kernel_rfl) (by kernel_rfl) (fun _ _ _ h => h) XhS.out (Or.inl ⟨by rfl, ?_⟩) ?_
  rotate_left
  · intro Wq hWq
    obtain ⟨x0, x1, x2⟩ := hWq
    go_simp
    try with_reducible rfl
  try simp only [Act.put, List.getElem_toArray, List.getElem_cons_zero, List.getElem_cons_succ, List.setIfInBounds_toArray, List.set_cons_zero, List.set_cons_succ]
  refine hoist_take (i := 6) (v := ?_) rfl (by kernel_rfl) (by kernel_rfl) (by kernel_rfl) (by kernel_rfl) (fun _ _ _ h => h) XhS.out (Or.inl ⟨by rfl, ?_⟩) ?_
  rotate_left
  · intro Wq hWq
    obtain ⟨x0, x1, x2⟩ := hWq
    go_simp
    try with_reducible rfl
  try simp only [Act.put, List.getElem_toArray, List.getElem_cons_zero, List.getElem_cons_succ, List.setIfInBounds_toArray, List.set_cons_zero, List.set_cons_succ]
  refine hoist_take (i := 8) (v := ?_) rfl (by kernel_rfl) (by kernel_rfl) (by kernel_rfl) (by kernel_rfl) (fun _ _ _ h => h) XhS.out (Or.inl ⟨by rfl, ?_⟩) ?_
  rotate_left
  · intro Wq hWq
    obtain ⟨x0, x1, x2⟩ := hWq
    go_simp
    try with_reducible rfl
  try simp only [Act.put, List.getElem_toArray, List.getElem_cons_zero, List.getElem_cons_succ, List.setIfInBounds_toArray, List.set_cons_zero, List.set_cons_succ]
  refine hoist_take (i := 9) (v := ?_) rfl (by kernel_rfl) (by kernel_rfl) (by kernel_rfl) (by kernel_rfl) (fun _ _ _ h => h) XhS.out (Or.inl ⟨by rfl, ?_⟩) ?_
  rotate_left
  · intro Wq hWq
    obtain ⟨x0, x1, x2⟩ := hWq
    go_simp
    try with_reducible rfl
  try simp only [Act.put, List.getElem_toArray, List.getElem_cons_zero, List.getElem_cons_succ, List.setIfInBounds_toArray, List.set_cons_zero, List.set_cons_succ]
  refine hoist_take (i := 10) (v := ?_) rfl (by kernel_rfl) (by kernel_rfl) (by kernel_rfl) (by kernel_rfl) (fun _ _ _ h => h) XhS.out (Or.inl ⟨by rfl, ?_⟩) ?_
  rotate_left
  · intro Wq hWq
    obtain ⟨x0, x1, x2⟩ := hWq
    go_simp
    try with_reducible rfl
  try simp only [Act.put, List.getElem_toArray, List.getElem_cons_zero, List.getElem_cons_succ, List.setIfInBounds_toArray, List.set_cons_zero, List.set_cons_succ]
  refine hoist_take (i := 11) (v := ?_) rfl (by kernel_rfl) (by kernel_rfl) (by kernel_rfl) (by kernel_rfl) (fun _ _ _ h => h) XhS.out (Or.inl ⟨by rfl, ?_⟩) ?_
  rotate_left
  · intro Wq hWq
    obtain ⟨x0, x1, x2⟩ := hWq
    go_simp
    try with_reducible rfl
  try simp only [Act.put, List.getElem_toArray, List.getElem_cons_zero, List.getElem_cons_succ, List.setIfInBounds_toArray, List.set_cons_zero, List.set_cons_succ]
  refine hoist_one (i := 7) rfl (by kernel_rfl) (fun K hK => ?_)
  have XhK0 := Lib.hid hK
  clear hK
  go_wp2_with fail
  refine Xhmt.out.mono ?_
  rintro e W4 ⟨gf, lb, rfl, k4, hit⟩
  have z4 := k4.size
  have h4 := Xh3.out.keep k4 (fun _ _ _ => trivial)
  have n4 := k4.heap Xn3.out trivial
  have hc4 := ints_stay Xhc3.out (m := m) (k4.mono fun _ _ _ => trivial) (Nat.le_refl _)
  have hk4 := ints_stay Xhk3.out (m := m) (k4.mono fun _ _ _ => trivial) (Nat.le_refl _)
  have hL14 := XhL13.out.keep1 k4 (fun _ _ => trivial)
  have hL24 := XhL23.out.keep1 k4 (fun _ _ => trivial)
  have hpv4 : PlaceV d W2.heap.size W4 (.slice aw pl.length cw) pl := ⟨own_kept Xhpv3.out.1 k4 (fun _ _ => trivial), Xhpv3.out.2⟩
  have hS4 : W4.cell? ⟨nb, 2, none⟩ = some (.int .i64 fr) ∧ W4.cell? ⟨nb, 3, none⟩ = some (.int .i64 to) ∧ W4.cell? ⟨nb, 4, none⟩ = some (.int .i64 lv) := ⟨k4.cell XhS.out.1 trivial, k4.cell XhS.out.2.1 trivial, k4.cell XhS.out.2.2 trivial⟩
  have hgo := slotGoes h4 lv hit (fun b hb => Xhfr.out b (by omega)) (.slice aw pl.length cw) (by rw [Xhpl.out]; exact hpv4) (fun b hb => Xhfr.out b (by have := Xhwo.out b hb; omega))
  rw [XhvR.out] at hgo
  have k04 : Keep (fun b => b < w.heap.size) w W4 := Xk03.out.trans (k4.mono fun _ _ _ => trivial)
  have l4 : nb < W4.heap.size := by omega
  clear k4 hit Xh3 Xn3 Xhc3 Xhk3 XhL13 XhL23 Xhpv3 Xk03 Xhmt
  have Xh4 := Lib.hid h4
  have Xn4 := Lib.hid n4
  have Xhc4 := Lib.hid hc4
  have Xhk4 := Lib.hid hk4
  have XhL14 := Lib.hid hL14
  have XhL24 := Lib.hid hL24
  have Xhpv4 := Lib.hid hpv4
  have XhS4 := Lib.hid hS4
  have Xhgo := Lib.hid hgo
  have Xk04 := Lib.hid k04
  clear h4 n4 hc4 hk4 hL14 hL24 hpv4 hS4 hgo k04
  go_wp2_with fail
  refine XhK0.out _ _ (fun _ => XhS4.out) ?_
  refine hoist_one (i := 12) rfl (by kernel_rfl) (fun K hK => ?_)
  have XhK1 := Lib.hid hK
  clear hK
  go_wp2_with fail
  refine Xhgo.out.mono ?_
  rintro e W5 ⟨rfl, d1, g1o, hts1⟩
  have bag4 : MBag nb m g1 g2 cap1 cap2 Wd.heap.size W1.heap.size W2.heap.size [.int .i64 kd, .int .i64 wh, .int .i64 fr, .int .i64 to, .int .i64 lv, vt, .slice ac cols.length cc, .slice ak key.length ck] (.slice ac cols.length cc) (.slice ak key.length ck) (.slice aw pl.length cw) cols key pl W4 :=
    ⟨Xn4.out, Xhc4.out, Xhk4.out, XhL14.out, XhL24.out, Xhpv4.out.1⟩
  have hoffs : ∀ b, b = nb ∨ b < m ∨ b = g1 ∨ b = g2 ∨ Value.ownBlock (.slice aw pl.length cw) = some b → offS d b ∧ b < W4.heap.size := fun b hb => by
    rcases hb with rfl | hb | rfl | rfl | hb
    · exact ⟨Xhnbo.out, l4⟩
    · exact ⟨Xhmo.out b hb, by omega⟩
    · exact ⟨Xhfr.out _ (by omega), by omega⟩
    · exact ⟨Xhfr.out _ (by omega), by omega⟩
    · have := Xhwo.out b hb
      exact ⟨Xhfr.out b (by omega), by omega⟩
  have bag5 := bag4.keep g1o.keep (fun b hb => ⟨Xh4.out.off_out (hoffs b hb).1, (hoffs b hb).2⟩)
  have hoff1 : ∀ b, b = nb ∨ b < m ∨ b = g1 ∨ b = g2 ∨ Value.ownBlock (.slice aw pl.length cw) = some b → offS d1 b ∧ b < W4.heap.size := fun b hb => ⟨g1o.off (hoffs b hb).2 (hoffs b hb).1, (hoffs b hb).2⟩
  have G5 : SlotGo d w d1 W5 := SlotGo.trans ⟨Xh4.out, SlotOn.refl _ _, Xk04.out.mono fun b _ h => h.2⟩ g1o
  have z5 := g1o.keep.size
  have h5 := g1o.here
  have hS5 : W5.cell? ⟨nb, 2, none⟩ = some (.int .i64 fr) ∧ W5.cell? ⟨nb, 3, none⟩ = some (.int .i64 to) ∧ W5.cell? ⟨nb, 4, none⟩ = some (.int .i64 lv) := by
    have c2 := cells_of_block bag5.n 2 _ rfl
    have c3 := cells_of_block bag5.n 3 _ rfl
    have c4 := cells_of_block bag5.n 4 _ rfl
    simp only [Nat.zero_add] at c2 c3 c4
    exact ⟨c2, c3, c4⟩
  have hct := slotCount h5 _ _ cols key fr to (bag5.l1.lends hlc (fun b hb => (hoff1 b (by simp only [Value.ownBlock, Option.some.injEq] at hb; exact .inr (.inr (.inl hb.symm)))).1)) (bag5.l2.lends hlk (fun b hb => (hoff1 b (by simp only [Value.ownBlock, Option.some.injEq] at hb; exact .inr (.inr (.inr (.inl hb.symm))))).1)) Xhok.out
  have ht1 : tV d1 = vT := g1o.on.t.trans XhvT.out
  have hr1 : rV d1 = vR := g1o.on.r.trans XhvR.out
  obtain ⟨q1, hq1⟩ : ∃ q, (cntS d1 cols key fr to).1 = q := ⟨_, rfl⟩
  obtain ⟨q2, hq2⟩ : ∃ q, (cntS d1 cols key fr to).2 = q := ⟨_, rfl⟩
  rw [ht1, hq1, hq2] at hct
  have hon1 := g1o.on
  clear bag4 hoffs g1o Xh4 Xn4 Xhc4 Xhk4 XhL14 XhL24 Xhgo Xk04
  have Xbag5 := Lib.hid bag5
  have Xhoff1 := Lib.hid hoff1
  have XG5 := Lib.hid G5
  have Xh5 := Lib.hid h5
  have XhS5 := Lib.hid hS5
  have Xhct := Lib.hid hct
  have Xht1 := Lib.hid ht1
  have Xhr1 := Lib.hid hr1
  have Xhq1 := Lib.hid hq1
  have Xhq2 := Lib.hid hq2
  have Xhts1 := Lib.hid hts1
  have Xhon1 := Lib.hid hon1
  clear bag5 hoff1 G5 h5 hS5 hct ht1 hr1 hq1 hq2 hts1 hon1
  go_wp2_with fail
  refine XhK1.out _ _ (fun _ => XhS5.out) ?_
  refine hoist_one (i := 13) rfl (by kernel_rfl) (fun K hK => ?_)
  have XhK2 := Lib.hid hK
  clear hK
  go_wp2_with fail
  refine XhK2.out _ _ (fun _ => XhS5.out) ?_
  refine hoist_done (by kernel_rfl) ?_
  have c2 := XhS5.out.1
  have c3 := XhS5.out.2.1
  have l5 : nb < W5.heap.size := by omega
  clear XhK0 XhK1 XhK2 XhS XhS4 XhS5
  go_wp2_with fail
  refine Xhct.out.mono ?_
  rintro e W6 ⟨rfl, d2, g2o, hts2⟩
  have z6 := g2o.keep.size
  have bag6 := Xbag5.out.keep g2o.keep (fun b hb => ⟨Xh5.out.off_out (Xhoff1.out b hb).1, by have := (Xhoff1.out b hb).2; omega⟩)
  have hoff2 : ∀ b, b = nb ∨ b < m ∨ b = g1 ∨ b = g2 ∨ Value.ownBlock (.slice aw pl.length cw) = some b → offS d2 b ∧ b < W4.heap.size := fun b hb => ⟨g2o.off (by have := (Xhoff1.out b hb).2; omega) (Xhoff1.out b hb).1, (Xhoff1.out b hb).2⟩
  have G6 : SlotGo d w d2 W6 := XG5.out.trans g2o
  have h6 := g2o.here
  have hcr := slotRefCount h6 _ _ cols key fr to (ints_wider bag6.c (by omega)) (ints_wider bag6.k (by omega))
  have hr2 : rV d2 = vR := g2o.on.r.trans Xhr1.out
  have ht2 : tV d2 = vT := g2o.on.t.trans Xht1.out
  rw [hr2, g2o.on.cnt hts2, Xhq1.out, Xhq2.out] at hcr
  have c2' := cells_of_block bag6.n 2 _ rfl
  have c3' := cells_of_block bag6.n 3 _ rfl
  have c6' := cells_of_block bag6.n 6 _ rfl
  have c7' := cells_of_block bag6.n 7 _ rfl
  simp only [Nat.zero_add] at c2' c3' c6' c7'
  have l6 : nb < W6.heap.size := by omega
  have hts62 : tsS d2 = tsS d := hts2.trans Xhts1.out
  have hpl2 : plS d2 cols key fr to = pl := by rw [g2o.on.pl hts2, Xhon1.out.pl Xhts1.out, Xhpl.out]
  have hnone2 : d2 = none → (.slice aw pl.length cw : Value) = .slice none 0 0 := PlaceV.on Xhpv4.out (Xhon1.out.trans g2o.on (by omega))
  clear g2o Xbag5 Xhoff1 XG5 Xh5 Xhct c2 c3
  have Xbag6 := Lib.hid bag6
  have Xhoff2 := Lib.hid hoff2
  have XG6 := Lib.hid G6
  have Xh6 := Lib.hid h6
  have Xhcr := Lib.hid hcr
  have Xhr2 := Lib.hid hr2
  have Xht2 := Lib.hid ht2
  have Xhts62 := Lib.hid hts62
  have Xhpl2 := Lib.hid hpl2
  have Xhnone2 := Lib.hid hnone2
  clear bag6 hoff2 G6 h6 hcr hr2 ht2 hts62 hpl2 hnone2
  go_wp2_with fail
  refine Xhcr.out.mono ?_
  rintro e W7 ⟨rfl, k7⟩
  have z7 := k7.size
  have bag7 := Xbag6.out.keep k7 (fun b hb => by have := (Xhoff2.out b hb).2; omega)
  have G7 := XG6.out.stay k7 (fun b hb => hb)
  clear k7 Xbag6 XG6 Xh6 Xhcr c2' c3' c6' c7'
  have Xbag7 := Lib.hid bag7
  have XG7 := Lib.hid G7
  clear bag7 G7
  go_wp2_with fail
  refine (num_any _ _).mono ?_
  rintro e w1 ⟨rfl, hw1⟩
  have hw1 := hw1.symm
  subst hw1
  have c6 := cells_of_block Xbag7.out.n 6 _ rfl
  simp only [Nat.zero_add] at c6
  have l7 : nb < W7.heap.size := by omega
  have hleft := left_any m _ _ _ cols W7 Xbag7.out.l1 Xbag7.out.c (by omega) hlc
  have Xhleft := Lib.hid hleft
  clear hleft
  go_wp2_with fail
  refine Xhleft.out.mono ?_
  rintro e W8 ⟨rfl, k8⟩
  have z8 := k8.size
  have bag8 := Xbag7.out.keep k8 (fun _ _ => trivial)
  have G8 := XG7.out.stay k8 (fun _ _ => trivial)
  have c7 := cells_of_block bag8.n 7 _ rfl
  simp only [Nat.zero_add] at c7
  have l8 : nb < W8.heap.size := by omega
  have hleft := left_any m _ _ _ key W8 bag8.l2 bag8.k (by omega) hlk
  clear k8 Xbag7 XG7 c6 Xhleft
  have Xbag8 := Lib.hid bag8
  have XG8 := Lib.hid G8
  have Xhleft := Lib.hid hleft
  clear bag8 G8 hleft
  go_wp2_with fail
  refine Xhleft.out.mono ?_
  rintro e W9 ⟨rfl, k9⟩
  have z9 := k9.size
  have bag9 := Xbag8.out.keep k9 (fun _ _ => trivial)
  have G9 := XG8.out.stay k9 (fun _ _ => trivial)
  have c2 := cells_of_block bag9.n 2 _ rfl
  have c3 := cells_of_block bag9.n 3 _ rfl
  simp only [Nat.zero_add] at c2 c3
  have l9 : nb < W9.heap.size := by omega
  have hmt := slotMatch (d := d2) (w := W9) _ _ cols key fr to (LentIn.ints bag9.l1 hlc) (LentIn.ints bag9.l2 hlk) Xhok.out
  rw [Xht2.out] at hmt
  clear k9 Xbag8 XG8 c7 Xhleft
  have hfr9 : ∀ b, W9.heap.size ≤ b → offS d2 b := fun b hb => G9.here.fresh hb
  have Xbag9 := Lib.hid bag9
  have XG9 := Lib.hid G9
  have Xhmt := Lib.hid hmt
  have Xhfr9 := Lib.hid hfr9
  clear bag9 G9 hmt hfr9
  go_wp2_with fail
  refine Xhmt.out.mono ?_
  rintro e W10 ⟨gf2, lb2, rfl, k10, hit⟩
  have z10 := k10.size
  have bag10 := Xbag9.out.keep k10 (fun _ _ => trivial)
  have G10 := XG9.out.stay k10 (fun _ _ => trivial)
  have hLc := LentIn.loose bag10.l1
  have hLk := LentIn.loose bag10.l2
  have g12 : g1 < g2 := by omega
  clear k10 Xbag9 XG9 c2 c3 Xhmt
  have Xbag10 := Lib.hid bag10
  have XG10 := Lib.hid G10
  have Xhit := Lib.hid hit
  have XhLc := Lib.hid hLc
  have XhLk := Lib.hid hLk
  clear bag10 G10 hit hLc hLk
  go_wp2_with fail
  go_loopw [15] (fun i wr => ∃ j : Nat, j ≤ cols.length ∧ i = .int .i64 (j : Int) ∧ LooseIn wr 3 (.slice (some ⟨g1, 0, none⟩) cols.length cap1) cols.length ∧ LooseIn wr 3 (.slice (some ⟨g2, 0, none⟩) key.length cap2) key.length ∧ Keep (fun b => b ≠ g1 ∧ b ≠ g2) W10 wr) (fun i _ => cols.length - (intOf i).toNat)
  case atStart => exact ⟨0, by omega, rfl, XhLc.out, XhLk.out, Keep.refl _ _⟩
  case round =>
    obtain ⟨j, hj, rfl, hlc1, hlk1, hKr⟩ := hrel
    have hszr := hKr.size
    have hj0 : (0 : Int) ≤ j := by omega
    by_cases hlt : j < cols.length
    · obtain ⟨cur, hg, e3⟩ : ∃ cur, wr.heap[g1]? = some (.cells cur 3 (0, 0)) ∧ cap1 ≤ cur.size := by
        rcases hlc1 with ⟨q, _⟩ | ⟨g, c', cur, q, h2, h3, h4, h5⟩
        · cases q
        · injection q with q1 q2 q3
          injection q1 with q1
          injection q1 with q1
          subst q1 q3
          exact ⟨cur, h2, h5⟩
      obtain ⟨u0, hu0⟩ : ∃ u0, wr.cell? ⟨g1, j, none⟩ = some u0 := by
        have := cells_of_block hg j _ (List.getElem?_eq_getElem (by rw [Array.length_toList]; omega))
        rw [Nat.zero_add] at this
        exact ⟨_, this⟩
      have hfr1 := box_free hg j
      have hgl1 := heap_lt hg
      obtain ⟨Wa, hWa⟩ : ∃ Wa, wr.setCell ⟨g1, j, none⟩ (.int .i64 0) = Wa := ⟨_, rfl⟩
      have hlc2 : LooseIn Wa 3 (.slice (some ⟨g1, 0, none⟩) cols.length cap1) cols.length := by rw [← hWa]; exact hlc1.set j _
      have ka : Keep (fun b => b ≠ g1) wr Wa := by rw [← hWa]; exact Keep.setCell _ _ _ (by simp)
      have hlk2 := hlk1.keep ka (fun b hb => by simp only [Value.ownBlock, Option.some.injEq] at hb; omega)
      have hKa : Keep (fun b => b ≠ g1 ∧ b ≠ g2) W10 Wa := hKr.trans (ka.mono fun b _ h => h.1)
      have hlt1 : (j : Int) < cols.length := by omega
      have hj1 : (j : Int) + 1 ≤ 1073741824 := by omega
      by_cases hkl2 : j < key.length
      · obtain ⟨cur2, hg', e4⟩ : ∃ cur, Wa.heap[g2]? = some (.cells cur 3 (0, 0)) ∧ cap2 ≤ cur.size := by
          rcases hlk2 with ⟨q, _⟩ | ⟨g, c', cur, q, h2, h3, h4, h5⟩
          · cases q
          · injection q with q1 q2 q3
            injection q1 with q1
            injection q1 with q1
            subst q1 q3
            exact ⟨cur, h2, h5⟩
        obtain ⟨u2, hu2⟩ : ∃ u0, Wa.cell? ⟨g2, j, none⟩ = some u0 := by
          have := cells_of_block hg' j _ (List.getElem?_eq_getElem (by rw [Array.length_toList]; omega))
          rw [Nat.zero_add] at this
          exact ⟨_, this⟩
        have hfr2 := box_free hg' j
        have hgl2 := heap_lt hg'
        obtain ⟨Wb, hWb⟩ : ∃ Wb, Wa.setCell ⟨g2, j, none⟩ (.int .i64 (-3)) = Wb := ⟨_, rfl⟩
        have hlk3 : LooseIn Wb 3 (.slice (some ⟨g2, 0, none⟩) key.length cap2) key.length := by rw [← hWb]; exact hlk2.set j _
        have kb : Keep (fun b => b ≠ g2) Wa Wb := by rw [← hWb]; exact Keep.setCell _ _ _ (by simp)
        have hlc3 := hlc2.keep kb (fun b hb => by simp only [Value.ownBlock, Option.some.injEq] at hb; omega)
        have hKb : Keep (fun b => b ≠ g1 ∧ b ≠ g2) W10 Wb := hKa.trans (kb.mono fun b _ h => h.2)
        have hkl3 : (j : Int) < key.length := by omega
        clear hlc1 hlk1 hKr hg hg' hlc2 hlk2 hKa ka kb e3 e4
        have Xhlk3 := Lib.hid hlk3
        have Xhlc3 := Lib.hid hlc3
        have XhKb := Lib.hid hKb
        clear hlk3 hlc3 hKb
        go_wp2_with fail
        go_roundw
        case rel => exact ⟨j + 1, by omega, by go_num, Xhlc3.out, Xhlk3.out, XhKb.out⟩
        case measure => simp [intOf]; omega
      · have hkl3 : ¬ (j : Int) < key.length := by omega
        clear hlc1 hlk1 hKr hg ka e3
        have Xhlc2 := Lib.hid hlc2
        have Xhlk2 := Lib.hid hlk2
        have XhKa := Lib.hid hKa
        clear hlc2 hlk2 hKa
        go_wp2_with fail
        go_roundw
        case rel => exact ⟨j + 1, by omega, by go_num, Xhlc2.out, Xhlk2.out, XhKa.out⟩
        case measure => simp [intOf]; omega
    · obtain rfl : j = cols.length := by omega
      have hg1f : offS d2 g1 ∧ offS d2 g2 := ⟨(Xhoff2.out g1 (.inr (.inr (.inl rfl)))).1, (Xhoff2.out g2 (.inr (.inr (.inr (.inl rfl))))).1⟩
      have G11 : SlotGo d w d2 wr := XG10.out.stayNew hKr (fun b hb hor => by
        constructor
        · intro e; subst e
          rcases hor with h1 | h1
          · omega
          · exact h1 hg1f.1
        · intro e; subst e
          rcases hor with h1 | h1
          · omega
          · exact h1 hg1f.2)
      have hit2 := SlotIt.stay Xhit.out hKr (fun b hb _ => by omega)
      have hp11 : PlaceV d2 W2.heap.size wr (.slice aw pl.length cw) (plS d2 cols key fr to) := by
        rw [Xhpl2.out]
        exact ⟨own_kept Xbag10.out.p hKr (fun b hb => by have := Xhwo.out b hb; omega), Xhnone2.out⟩
      have hgo := slotGoes G11.here 0 hit2 Xhfr9.out (.slice aw pl.length cw) hp11 (fun b hb => (Xhoff2.out b (.inr (.inr (.inr (.inr hb))))).1)
      rw [Xhr2.out] at hgo
      clear hlc1 hlk1 hKr hit2 hp11 hg1f
      have XG11 := Lib.hid G11
      have Xhgo := Lib.hid hgo
      clear G11 hgo
      go_wp2_with fail
      refine Xhgo.out.mono ?_
      rintro e W12 ⟨rfl, d3, g3o, hts3⟩
      have G12 := XG11.out.trans g3o
      clear g3o
      have XG12 := Lib.hid G12
      have Xhts3 := Lib.hid hts3
      clear G12 hts3
      go_wp2_with fail
      go_ret
      exact ⟨rfl, d3, XG12.out, Xhts3.out.trans Xhts62.out⟩
end Go.Proofs
