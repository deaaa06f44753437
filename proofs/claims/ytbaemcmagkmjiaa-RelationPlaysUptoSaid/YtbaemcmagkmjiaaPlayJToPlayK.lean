/- Layer 4, the law RelationPlays: Copy of both relations; adds of none. -/
import Derived.Test.YtbaemcmagkmjiaaProg
import Derived.Test.YtbaemcmagkmjiaaPlayI
namespace Go.Proofs
open Go.RowKit Go.Ink
set_option linter.unusedVariables false
set_option linter.unusedSimpArgs false
attribute [local go_sem] Oper.semAt_some

set_option maxRecDepth 100000 in
theorem adds_nil {w : World} (m : Nat) (v : Value) (l : List Int) (hs : IntsIn m w v l) (hm : m ≤ w.heap.size) :
    Calls Try.prog 14 #[.pointer none, .pointer none, v] w fun e w' => e = .returned (.bool true) ∧ Keep (fun b => b < w.heap.size) w w' := by
  obtain ⟨a, c, rfl, hlt, hct, het⟩ := id hs
  have Xhs := Lib.hid hs
  have Xhet := Lib.hid het
  clear hs het
  go_enter Try.func14, Try.ntmps14
  go_wp2_with fail
  refine (lent_any m _ l w Xhs.out hm).mono ?_
  rintro e W1 ⟨v1, rfl, k1, hL1⟩
  have hz1 := k1.size
  obtain ⟨g, cap, rfl, ho1⟩ := id hL1
  have hcp := own_cap ho1
  have hs1 := ints_stay Xhs.out (m := m) (k1.mono fun b hb h => by omega) (Nat.le_refl _)
  have hleft := left_any m w.heap.size _ _ l W1 hL1 hs1 (by omega) hlt
  have hcl1 : (l.length : Int) ≤ cap := by have := hcp.1; omega
  have hl0 : (0 : Int) ≤ l.length := by omega
  have hloose : LooseIn W1 3 (.slice (some ⟨g, 0, none⟩) l.length l.length) l.length := by
    rcases ho1.2 with ⟨h1, _⟩ | ⟨g2, c2, cur, h1, _, h3, h4, h5, h6, _⟩
    · cases h1
    · injection h1 with q1 q2 q3
      injection q1 with q1
      injection q1 with q1
      subst q1
      subst q3
      exact .inr ⟨_, _, cur, rfl, h3, Nat.le_refl _, by simp only [maxLen]; omega, by omega⟩
  have hgw : w.heap.size ≤ g := hcp.2.2.2
  clear hs1 ho1 hcp
  have Xk1 := Lib.hid k1
  have XhL1 := Lib.hid hL1
  have Xhleft := Lib.hid hleft
  have Xhloose := Lib.hid hloose
  clear k1 hL1 hleft hloose
  go_wp2_with fail
  refine (relAdd_nil _ W1).mono ?_
  rintro e w1 ⟨rfl, hw1⟩
  have hw1 := hw1.symm
  subst hw1
  go_wp2_with fail
  refine (refAdd_nil _ W1).mono ?_
  rintro e w1 ⟨rfl, hw1⟩
  have hw1 := hw1.symm
  subst hw1
  go_wp2_with fail
  refine (num_any _ _).mono ?_
  rintro e w1 ⟨rfl, hw1⟩
  have hw1 := hw1.symm
  subst hw1
  go_wp2_with fail
  refine Xhleft.out.mono ?_
  rintro e W4 ⟨rfl, k4⟩
  have hloose4 := Xhloose.out.keep k4 (fun _ _ => trivial)
  have hK14 : Keep (fun b => b < w.heap.size) w W4 := Xk1.out.trans (k4.mono fun _ _ _ => trivial)
  clear k4
  have Xhloose4 := Lib.hid hloose4
  have XhK14 := Lib.hid hK14
  clear hloose4 hK14
  go_wp2_with fail
  refine (spoil_any Xhloose4.out hlt).mono ?_
  rintro e W5 ⟨rfl, k5⟩
  have hK15 : Keep (fun b => b < w.heap.size) w W5 := XhK14.out.trans (k5.mono fun b _ hb e => by
    simp only [Value.ownBlock, Option.some.injEq] at e
    omega)
  clear k5
  have XhK15 := Lib.hid hK15
  clear hK15
  go_wp2_with fail
  go_ret
  exact ⟨rfl, XhK15.out⟩

set_option maxRecDepth 100000 in
theorem slotAdds {d : Option SlotD} {w : World} (h : SlotAt d w) (hfew : (tsS d).length < 67108864) (v : Value) (l : List Int) (m : Nat) (hm : m ≤ w.heap.size) (hs : IntsIn m w v l) (hmo : ∀ b, b < m → outS d b) (hok : okT l) :
    Calls Try.prog 14 #[tV d, rV d, v] w fun e w' => e = .returned (.bool true) ∧ ∃ d', SlotGo d w d' w' ∧ (tsS d').length ≤ (tsS d).length + 1 := by
  cases d with
  | none => exact (adds_nil m v l hs hm).mono fun e w' ⟨h1, h2⟩ => ⟨h1, none, ⟨trivial, trivial, h2.mono fun _ _ h => h.2⟩, by simp [tsS]⟩
  | some x => exact (addsW_any h hfew m v l hs hm hmo hok).mono fun e w' ⟨h1, s', F', vL', svs', h2, h3, h4, h5, h6⟩ =>
      ⟨h1, some ⟨x.B, x.n, x.P, x.K, s', F', x.Bf, vL', svs'⟩, ⟨h2, ⟨rfl, rfl, rfl, rfl, rfl, h4, h6⟩, h5.mono fun _ _ h => h.1⟩, by show s'.ts.length ≤ x.s.ts.length + 1; rw [h3]; exact addT_len _ _ _⟩

set_option maxRecDepth 100000 in
theorem refCopy_any {F : Nat → Prop} {w : World} {B n : Nat} {ts : List (List Int)} {vL : Value} {svs : List Value} (h : RefOwn F w B n ts vL svs) (hl : ts.length ≤ 536870912) :
    Calls Try.prog 27 #[.pointer (some ⟨B, 0, none⟩)] w fun e w' => ∃ B' vL', e = .returned (.pointer (some ⟨B', 0, none⟩)) ∧ Keep (fun _ => True) w w' ∧ w.heap.size ≤ B' ∧ (∀ b, vL'.ownBlock = some b → w.heap.size ≤ b) ∧
      RefOwn (fun b => (F b ∧ b ≠ B ∧ vL.ownBlock ≠ some b) ∨ (w.heap.size ≤ b ∧ b < w'.heap.size)) w' B' n ts vL' svs := by
  obtain ⟨W0, hW0⟩ : ∃ W0, w.drew = W0 := ⟨_, rfl⟩
  have k0 : Keep (fun _ => True) w W0 := by rw [← hW0]; exact Keep.drew _ _
  have z0 : W0.heap.size = w.heap.size := by rw [← hW0]; simp
  have h0 := h.keep k0 (fun _ _ _ => trivial)
  have hone : ∀ u ∈ svs, u.oneCell' = true := fun u hu => by
    obtain ⟨j, hj⟩ := List.mem_iff_getElem?.1 hu
    have hjl := (List.getElem?_eq_some_iff.1 hj).1
    rw [h.rows.1] at hjl
    obtain ⟨a, c, h1, _⟩ := h.rows.2 j _ (List.getElem?_eq_getElem hjl)
    rw [hj] at h1
    cases h1
    rfl
  obtain ⟨aL, cL, hvL, hsrc, hno⟩ : ∃ aL cL, vL = .slice aL ts.length cL ∧ (∀ b, aL = some b → ∀ j u, svs[j]? = some u → W0.cell? (b.add j) = some u) ∧ (aL = none → ts.length = 0) := by
    rcases h0.own.2 with ⟨e1, e2⟩ | ⟨g, cap, cur, e1, e2, e3, e4, e5, _⟩
    · exact ⟨none, 0, by rw [e1, e2], (fun b hb => by cases hb), fun _ => e2⟩
    · refine ⟨_, cap, e1, (fun b hb j u hj => ?_), (fun hb => by cases hb)⟩
      cases hb
      have h1 := h0.own
      rw [e1] at h1
      have := own_elem h1 j u hj
      by_cases hj0 : j = 0
      · subst hj0; simpa [Addr.add] using this
      · simpa [Addr.add, hj0] using this
  obtain ⟨v1, W1, hr1, ho1, k1⟩ := app_copy (P := Try.prog) el_list 22 W0 aL ts.length cL svs (by rw [h.rows.1, Nat.mul_one]) hsrc hno hone (by omega)
  obtain ⟨a1, c1, rfl⟩ := own_form ho1
  obtain ⟨W2, hW2⟩ : ∃ W2, W1.alloc (.cells #[.int .i64 (n : Int), .slice a1 ts.length c1] 38) = W2 := ⟨_, rfl⟩
  have k2 : Keep (fun _ => True) W1 W2 := by rw [← hW2]; exact Keep.alloc _ _ _
  have b2 : W2.heap[W1.heap.size]? = some (.cells #[.int .i64 (n : Int), .slice a1 ts.length c1] 38 (0, 0)) := by rw [← hW2]; exact new_block _ _
  have z1 := k1.size
  have k02 : Keep (fun _ => True) w W2 := k0.trans (k1.trans k2)
  have hown : ∀ b, (Value.slice a1 ts.length c1).ownBlock = some b → W0.heap.size ≤ b ∧ b < W1.heap.size := fun b hb => World.ownsRow.lt ho1 b hb
  have z2 : W2.heap.size = W1.heap.size + 1 := by rw [← hW2]; simp
  have hfin : RefOwn (fun b => (F b ∧ b ≠ B ∧ vL.ownBlock ≠ some b) ∨ (w.heap.size ≤ b ∧ b < W2.heap.size)) W2 W1.heap.size n ts (.slice a1 ts.length c1) svs := by
    have ho2 := own_kept ho1 k2 (fun _ _ => trivial)
    refine ⟨b2, ⟨ho2.1, ho2.2.imp id (fun ⟨g, cap, cur, e1, e2, e3⟩ => ⟨g, cap, cur, e1, Nat.zero_le _, e3⟩)⟩, fun e => by have := (hown _ e).2; omega, fun b hb => .inr (by have := hown b hb; omega), .inr (by omega), h.rows.1, fun j t ht => ?_⟩
    obtain ⟨a, c, q1, q2, q3, q4⟩ := h.rows.2 j t ht
    refine ⟨a, c, q1, q2, q3, fun k x hk => ?_⟩
    obtain ⟨b, o, e1, e2, e3, e4, e5, e6⟩ := q4 k x hk
    exact ⟨b, o, e1, .inl ⟨e2, e3, e4⟩, by omega, fun e => by have := (hown b e).1; omega, Nat.lt_of_lt_of_le e5 k02.size, k02.cell e6 trivial⟩
  have c0 := cells_of_block h0.box 0 _ rfl
  have c1' := cells_of_block h0.box 1 _ rfl
  simp only [Nat.zero_add] at c0 c1'
  have hB := heap_lt h.box
  have hB0 : B < W0.heap.size := by omega
  subst hvL
  have hS := And.intro c0 c1'
  have hS1 : W1.cell? ⟨B, 0, none⟩ = some (.int .i64 (n : Int)) ∧ W1.cell? ⟨B, 1, none⟩ = some (.slice aL ts.length cL) := ⟨k1.cell c0 trivial, k1.cell c1' trivial⟩
  have hS2 : W2.cell? ⟨B, 0, none⟩ = some (.int .i64 (n : Int)) ∧ W2.cell? ⟨B, 1, none⟩ = some (.slice aL ts.length cL) := ⟨k2.cell hS1.1 trivial, k2.cell hS1.2 trivial⟩
  clear c0 c1' hsrc hno hone ho1 b2 k0 k1 k2
  have Xh := Lib.hid h
  have Xh0 := Lib.hid h0
  have Xhr1 := Lib.hid hr1
  have Xhfin := Lib.hid hfin
  have Xk02 := Lib.hid k02
  have XhS := Lib.hid hS
  have Xhown := Lib.hid hown
  have XhS1 := Lib.hid hS1
  have XhS2 := Lib.hid hS2
  have XhW2 := Lib.hid hW2
  clear h h0 hr1 hfin k02 hS hown hS1 hS2 hW2
  go_enter Try.func27, Try.ntmps27
  go_wp2_with fail
  refine region_hoist rfl (fun W => W.cell? ⟨B, 0, none⟩ = some (.int .i64 (n : Int)) ∧ W.cell? ⟨B, 1, none⟩ = some (.slice aL ts.length cL)) [11] ?_
  rw [hW0]
  refine hoist_take (i := 0) (v := ?_) rfl (by kernel_rfl) (by kernel_rfl) (by kernel_rfl) (by kernel_rfl) (fun _ _ _ h => h) XhS.out (Or.inl ⟨by rfl, ?_⟩) ?_
  rotate_left
  · intro Wq hWq
    obtain ⟨x0, x1⟩ := hWq
    go_simp
    try with_reducible rfl
  try simp only [Act.put, List.getElem_toArray, List.getElem_cons_zero, List.getElem_cons_succ, List.setIfInBounds_toArray, List.set_cons_zero, List.set_cons_succ]
  refine hoist_take (i := 1) (v := ?_) rfl (by kernel_rfl) (by kernel_rfl) (by kernel_rfl) (by kernel_rfl) (fun _ _ _ h => h) XhS.out (Or.inl ⟨by rfl, ?_⟩) ?_
  rotate_left
  · intro Wq hWq
    obtain ⟨x0, x1⟩ := hWq
    go_simp
    try with_reducible rfl
  try simp only [Act.put, List.getElem_toArray, List.getElem_cons_zero, List.getElem_cons_succ, List.setIfInBounds_toArray, List.set_cons_zero, List.set_cons_succ]
  refine hoist_take (i := 2) (v := ?_) rfl (by kernel_rfl) (by kernel_rfl) (by kernel_rfl) (by kernel_rfl) (fun _ _ _ h => h) XhS.out (Or.inl ⟨by rfl, ?_⟩) ?_
  rotate_left
  · intro Wq hWq
    obtain ⟨x0, x1⟩ := hWq
    go_simp
    try with_reducible rfl
  try simp only [Act.put, List.getElem_toArray, List.getElem_cons_zero, List.getElem_cons_succ, List.setIfInBounds_toArray, List.set_cons_zero, List.set_cons_succ]
  refine hoist_take (i := 3) (v := ?_) rfl (by kernel_rfl) (by kernel_rfl) (by kernel_rfl) (by kernel_rfl) (fun _ _ _ h => h) XhS.out (Or.inl ⟨by rfl, ?_⟩) ?_
  rotate_left
  · intro Wq hWq
    obtain ⟨x0, x1⟩ := hWq
    go_simp
    try with_reducible rfl
  try simp only [Act.put, List.getElem_toArray, List.getElem_cons_zero, List.getElem_cons_succ, List.setIfInBounds_toArray, List.set_cons_zero, List.set_cons_succ]
  refine hoist_take (i := 4) (v := ?_) rfl (by kernel_rfl) (by kernel_rfl) (by kernel_rfl) (by kernel_rfl) (fun _ _ _ h => h) XhS.out (Or.inl ⟨by rfl, ?_⟩) ?_
  rotate_left
  · intro Wq hWq
    obtain ⟨x0, x1⟩ := hWq
    go_simp
    try with_reducible rfl
  try simp only [Act.put, List.getElem_toArray, List.getElem_cons_zero, List.getElem_cons_succ, List.setIfInBounds_toArray, List.set_cons_zero, List.set_cons_succ]
  refine hoist_take (i := 5) (v := ?_) rfl (by kernel_rfl) (by kernel_rfl) (by kernel_rfl) (by kernel_rfl) (fun _ _ _ h => h) XhS.out (Or.inl ⟨by rfl, ?_⟩) ?_
  rotate_left
  · intro Wq hWq
    obtain ⟨x0, x1⟩ := hWq
    go_simp
    try with_reducible rfl
  try simp only [Act.put, List.getElem_toArray, List.getElem_cons_zero, List.getElem_cons_succ, List.setIfInBounds_toArray, List.set_cons_zero, List.set_cons_succ]
  refine hoist_take (i := 6) (v := ?_) rfl (by kernel_rfl) (by kernel_rfl) (by kernel_rfl) (by kernel_rfl) (fun _ _ _ h => h) XhS.out (Or.inl ⟨by rfl, ?_⟩) ?_
  rotate_left
  · intro Wq hWq
    obtain ⟨x0, x1⟩ := hWq
    go_simp
    try with_reducible rfl
  try simp only [Act.put, List.getElem_toArray, List.getElem_cons_zero, List.getElem_cons_succ, List.setIfInBounds_toArray, List.set_cons_zero, List.set_cons_succ]
  refine hoist_take (i := 7) (v := ?_) rfl (by kernel_rfl) (by kernel_rfl) (by kernel_rfl) (by kernel_rfl) (fun _ _ _ h => h) XhS.out (Or.inl ⟨by rfl, ?_⟩) ?_
  rotate_left
  · intro Wq hWq
    obtain ⟨x0, x1⟩ := hWq
    go_simp
    try with_reducible rfl
  try simp only [Act.put, List.getElem_toArray, List.getElem_cons_zero, List.getElem_cons_succ, List.setIfInBounds_toArray, List.set_cons_zero, List.set_cons_succ]
  refine hoist_one (i := 8) rfl (by kernel_rfl) (fun K hK => ?_)
  have XhK0 := Lib.hid hK
  clear hK
  refine go_app (v := .slice none 0 0) (u := .slice aL ts.length cL) (v' := .slice a1 ts.length c1) (w' := W1) rfl (.const (.slice none 0 0)) (.tmp 12) 22 rfl rfl rfl Xhr1.out ?_
  go_wp2_with fail
  refine XhK0.out _ _ (fun _ => XhS1.out) ?_
  refine hoist_one (i := 9) rfl (by kernel_rfl) (fun K hK => ?_)
  have XhK1 := Lib.hid hK
  clear hK
  go_wp2_with fail
  refine XhK1.out _ _ (fun _ => XhS1.out) ?_
  refine hoist_one (i := 10) rfl (by kernel_rfl) (fun K hK => ?_)
  have XhK2 := Lib.hid hK
  clear hK
  go_wp2_with fail
  rw [XhW2.out]
  refine XhK2.out _ _ (fun _ => XhS2.out) ?_
  refine hoist_one (i := 11) rfl (by kernel_rfl) (fun K hK => ?_)
  have XhK3 := Lib.hid hK
  clear hK
  go_wp2_with fail
  refine XhK3.out _ _ (fun h => by simp at h) ?_
  refine hoist_done (by kernel_rfl) ?_
  go_wp2_with fail
  go_ret
  exact ⟨W1.heap.size, _, rfl, Xk02.out, by omega, fun b hb => by have := Xhown.out b hb; omega, Xhfin.out⟩
end Go.Proofs

/- Layer 4, the law RelationPlays: Copy of the program's relation. -/
namespace Go.Proofs
open Go.RowKit Go.Ink
set_option linter.unusedVariables false
set_option linter.unusedSimpArgs false
attribute [local go_sem] Oper.semAt_some

theorem addT_take {n : Nat} {ts : List (List Int)} {k : Nat} {t : List Int} (hr : ∀ t ∈ ts, rightD n t = true) (hn : ts.Nodup) (hk : ts[k]? = some t) : addT n (ts.take k) t = ts.take (k + 1) := by
  have hkl := (List.getElem?_eq_some_iff.1 hk).1
  have hp : placeD (ts.take k) t = none := by
    unfold placeD
    refine List.find?_eq_none.2 fun i hi he => ?_
    rw [List.mem_range, List.length_take] at hi
    have h1 : (ts.take k)[i]? = some t := of_decide_eq_true he
    rw [List.getElem?_take_of_lt (by omega)] at h1
    have h2 := (List.pairwise_iff_getElem.1 hn) i k (by omega) hkl (by omega)
    rw [← hk, List.getElem?_eq_getElem (by omega), List.getElem?_eq_getElem hkl] at h1
    injection h1 with h1
    exact h2 h1
  have ha : (addD n (ts.take k) t).2.1 = true := by
    unfold addD
    rw [hr t (List.mem_of_getElem? hk), hp]
    rfl
  unfold addT
  rw [if_pos ha, List.take_add_one, hk]
  rfl

set_option maxRecDepth 100000 in
set_option maxHeartbeats 2000000 in
theorem relCopy_any {B n P K : Nat} {s : RelS} {w : World} (h : RelInv B n P K s w) :
    Calls Try.prog 26 #[.pointer (some ⟨B, 0, none⟩)] w fun e w' => ∃ B' P' K' s' sA, e = .returned (.pointer (some ⟨B', 0, none⟩)) ∧ RelInv B' n P' K' s' w' ∧ s'.ts = s.ts ∧ (∀ b, ¬ s'.tag b = none → w.heap.size ≤ b ∧ sA.tag b = none) ∧ RelInv B n P K sA w' ∧ RelSame s w sA w' := by
  refine calls_of Try.func26 rfl ?_
  simp only [Try.ntmps26, List.size_toArray, List.length_cons, List.length_nil, Nat.reduceAdd, Nat.reduceSub, Array.replicate_succ, Array.replicate_zero, List.push_toArray, List.append_toArray, List.nil_append, List.cons_append]
  have c0 := cells_of_block h.own.box 0 _ rfl
  simp only [Nat.zero_add] at c0
  have hB := heap_lt h.own.box
  have hfew := h.few
  have Xh := Lib.hid h
  clear h
  gi_wp2
  refine ⟨trivial, rfl, (callsIn_wide.2 (made_any Xh.out.own.box)).mono ?_⟩
  rintro e w1 ⟨rfl, hw1⟩
  have hw1 := hw1.symm
  subst hw1
  gi_wp2
  refine ⟨trivial, rfl, (callsIn_wide.2 (relNew_any n Xh.out.own.n16 w)).mono ?_⟩
  rintro e W1 ⟨rfl, k1, tag, P', K', hO1, htag⟩
  have h1 := Xh.out.keep (k1.mono fun _ _ _ => trivial)
  have z1 := k1.size
  obtain ⟨B', hB'⟩ : ∃ B', w.heap.size + 2 = B' := ⟨_, rfl⟩
  rw [hB'] at hO1
  rw [hB']
  have hc1 : RelInv B' n P' K' ⟨tag, [], .slice none 0 0, []⟩ W1 := ⟨hO1, by simp⟩
  clear hO1
  obtain ⟨nb, hnb⟩ : ∃ nb, W1.heap.size = nb := ⟨_, rfl⟩
  obtain ⟨W2, hW2⟩ : ∃ W2, W1.alloc (.cells #[.pointer (some ⟨B', 0, none⟩)] 24) = W2 := ⟨_, rfl⟩
  have k2 : Keep (fun _ => True) W1 W2 := by rw [← hW2]; exact Keep.alloc _ _ _
  have z2 : W2.heap.size = nb + 1 := by rw [← hW2, ← hnb]; simp
  have b2 : BoxAt W2 nb 24 (.pointer (some ⟨B', 0, none⟩)) := by rw [← hW2, ← hnb]; exact new_block _ _
  have h2 := h1.keep (k2.mono fun _ _ _ => trivial)
  have hc2 := hc1.keep (k2.mono fun _ _ _ => trivial)
  have c2 : (W1.alloc (.cells #[.pointer (some ⟨B', 0, none⟩)] 24)).cell? ⟨B, 2, none⟩ = some (.int .i64 (s.ts.length : Int)) := by
    rw [hW2]
    have := cells_of_block h2.own.box 2 _ rfl
    simpa using this
  have hB2 : B < (W1.alloc (.cells #[.pointer (some ⟨B', 0, none⟩)] 24)).heap.size := by rw [hW2]; exact heap_lt h2.own.box
  have hall := relAll_it W2 B n P K 0 (s.ts.length : Int)
  have hct : ∀ b, nb ≤ b → tag b = none := fun b hb => by
    cases hT : tag b with
    | none => rfl
    | some T => have := hc1.own.lt b T hT; omega
  have hst : ∀ b, w.heap.size ≤ b → s.tag b = none := fun b hb => by
    cases hT : s.tag b with
    | none => rfl
    | some T => have := Xh.out.own.lt b T hT; omega
  have hwn : w.heap.size ≤ nb := by omega
  have hsm2 : RelSame s w s W2 := (RelSame.refl s w).keepOn (k1.trans k2) (fun _ _ _ => trivial)
  clear h1 hc1 k1 k2
  have Xhtag := Lib.hid htag
  have XhB' := Lib.hid hB'
  have Xb2 := Lib.hid b2
  have Xh2 := Lib.hid h2
  have Xhc2 := Lib.hid hc2
  have Xhall := Lib.hid hall
  have Xhct := Lib.hid hct
  have Xhst := Lib.hid hst
  have XhW2 := Lib.hid hW2
  have Xhsm2 := Lib.hid hsm2
  clear htag hB' b2 h2 hc2 hall hct hst hW2 hsm2
  gi_wp2
  rw [XhW2.out]
  refine ⟨trivial, rfl, (callsIn_wide.2 Xhall.out).mono ?_⟩
  rintro e W3 ⟨gf, lb, N, A, V, U, rfl, k3, hit⟩
  have z3 := k3.size
  have h3 := Xh2.out.keep (k3.mono fun _ _ _ => trivial)
  have hc3 := Xhc2.out.keep (k3.mono fun _ _ _ => trivial)
  have b3 := Xb2.out.keep k3 trivial
  have hsm3 := Xhsm2.out.keepOn k3 (fun _ _ _ => trivial)
  have hUn : ∀ b, U b → nb + 1 ≤ b ∧ b < W3.heap.size := fun b hb => by have := hit.u b hb; omega
  have hN : N s = s.ts.length := by rw [hit.n, match_stretch, List.length_range']; simp
  have hA : ∀ k s' m X args, A s k s' m X args → ∃ t, s.ts[k]? = some t ∧ Told k t m X args := fun k s' m X args ha => by
    obtain ⟨i, t, h1, h2, h3⟩ := hit.a s k s' m X args ha
    rw [match_stretch] at h1
    have hkl := (List.getElem?_eq_some_iff.1 h1).1
    rw [List.getElem?_eq_getElem hkl, List.getElem_range'] at h1
    simp at h1
    subst h1
    exact ⟨t, h2, h3⟩
  clear k3
  have Xh3 := Lib.hid h3
  have Xhc3 := Lib.hid hc3
  have Xb3 := Lib.hid b3
  have Xhsm3 := Lib.hid hsm3
  have XhUn := Lib.hid hUn
  have XhN := Lib.hid hN
  have XhA := Lib.hid hA
  have Xhit := Lib.hid hit
  clear h3 hc3 b3 hsm3 hUn hN hA hit
  gi_wp2
  refine range_outerG (relSys B n P K) s (gf := gf) (lb := lb) rfl Xhit.out.eg Xhit.out.it (fun b hb => Xhst.out b (by have := XhUn.out b hb; omega)) Xhit.out.two Xh3.out (fun b hb => Xhst.out b (by omega)) Xhit.out.v (fun X Y hv hk => Xhit.out.vu _ _ hv (hk.mono fun b _ hb => by have := XhUn.out b hb; omega))
    (fun k s' X => BoxAt X nb 24 (.pointer (some ⟨B', 0, none⟩)) ∧ s'.tag nb = none ∧ RelSame s w s' X ∧ ∃ sc, RelInv B' n P' K' sc X ∧ sc.ts = s.ts.take k ∧ ∀ b, ¬ sc.tag b = none → w.heap.size ≤ b ∧ s'.tag b = none ∧ b ≠ nb ∧ ¬ U b ∧ b ≠ W3.heap.size ∧ b ≠ W3.heap.size + 1) (fun c k s' X => False) ?hI ?hIx ?hIs ?hIxs ?h0 ?round ?done ?stop
  case hI =>
    rintro k s' X Y ⟨h1, h2, h3, sc, h4, h5, h6⟩ hK
    refine ⟨h1.keep hK (.inl (by omega)), h2, h3.keepOn hK (fun b hb _ => .inl (by omega)), sc, h4.keep (hK.mono fun b _ hb => ?_), h5, h6⟩
    have := (h6 b hb).2.2.2
    omega
  case hIx => rintro c k s' X Y h; exact h.elim
  case hIs =>
    rintro k s' X s'' Y ⟨h1, h2, h3, sc, h4, h5, h6⟩ hs
    have hfr := (relSys B n P K).inew hs
    exact ⟨h1.keep ((relSys B n P K).ifree hs) h2, hfr nb h1.lt h2, h3.it hs, sc, h4.keep (((relSys B n P K).ifree hs).mono fun b _ hb => (h6 b hb).2.1), h5, fun b hb => ⟨(h6 b hb).1, hfr b (by
      cases hT : sc.tag b with
      | none => exact absurd hT hb
      | some T => exact h4.own.lt b T hT) (h6 b hb).2.1, (h6 b hb).2.2⟩⟩
  case hIxs => rintro c k s' X s'' Y h; exact h.elim
  case h0 =>
    refine ⟨Xb3.out, Xhst.out nb hwn, Xhsm3.out, _, Xhc3.out, by simp, fun b hb => ?_⟩
    have h1 : w.heap.size ≤ b := by
      cases hT : tag b with
      | none => exact absurd hT hb
      | some T => exact Xhtag.out b T hT
    have h2 : b < nb := Nat.lt_of_not_le (fun h => hb (Xhct.out b h))
    exact ⟨h1, Xhst.out b h1, by omega, fun hu => by have := XhUn.out b hu; omega, by omega, by omega⟩
  case stop => rintro D c k s' W _ _ _ _ _ h; exact h.elim
  case round =>
    rintro l k s' X0 X args hBl hlX hfl hk ⟨h1, h2, h3, sc, h4, h5, h6⟩ hs hinvX hVX hsz hAr
    obtain ⟨t, ht, v', rfl, hv1, hv2⟩ := XhA.out k s' _ X args hAr
    have hXz : X0.heap.size ≤ X.heap.size := ((relSys B n P K).ifree hs).size
    have hscl : ∀ b, ¬ sc.tag b = none → b < X0.heap.size := fun b hb => by
      cases hT : sc.tag b with
      | none => exact absurd hT hb
      | some T => exact h4.own.lt b T hT
    have h4X : RelInv B' n P' K' sc X := h4.keep (((relSys B n P K).ifree hs).mono fun b _ hb => (h6 b hb).2.1)
    have h1X := h1.keep ((relSys B n P K).ifree hs) h2
    have h3X := h3.it hs
    have hv0 : ∀ b, v'.ownBlock = some b → X0.heap.size ≤ b ∧ b < X.heap.size := fun b hb => World.ownsRow.lt hv1 b hb
    have hokt := Xh.out.own.ok t (List.mem_of_getElem? ht)
    have hkl : k < s.ts.length := (List.getElem?_eq_some_iff.1 ht).1
    have hsts : sc.ts.length ≤ 67108864 := h4.few
    have hadd : addT n sc.ts t = s.ts.take (k + 1) := by rw [h5]; exact addT_take Xh.out.own.right Xh.out.own.nodup ht
    obtain ⟨at', ct', rfl⟩ := own_form hv1
    have hll := hfl.2.2
    clear h1 h3 h4 hs hAr
    have Xhscl := Lib.hid hscl
    have Xh4X := Lib.hid h4X
    have Xh1X := Lib.hid h1X
    have Xh3X := Lib.hid h3X
    have Xhv0 := Lib.hid hv0
    have Xhv1 := Lib.hid hv1
    have Xhokt := Lib.hid hokt
    have Xhadd := Lib.hid hadd
    have XhinvX := Lib.hid hinvX
    have XhVX := Lib.hid hVX
    have Xhfl := Lib.hid hfl
    have Xh2 := Lib.hid h2
    have Xh5 := Lib.hid h5
    have Xh6 := Lib.hid h6
    have Xht := Lib.hid ht
    clear hscl h4X h1X h3X hv0 hv1 hokt hadd hinvX hVX hfl h2 h5 h6 ht
    gi_wp2
    refine ⟨Keep.refl _ _, fun Y hY hYs hYl => ?_⟩
    have hlw : W3.heap.size + 2 ≤ Y.heap.size := by omega
    have h4Y := Xh4X.out.keep (hY.mono fun b _ hb => by have := (Xh6.out b hb).2.2.2.2.2; omega)
    have b1Y := Xh1X.out.keep hY (by omega)
    have cY := b1Y.cell
    have lY := b1Y.lt
    have hvY := own_kept Xhv1.out hY (fun b hb => by have := (Xhv0.out b hb).1; omega)
    have hAdd := relAdd_any h4Y.own (by omega) Y.heap.size _ t (own_ints hvY hv2) (Nat.le_refl _) Xhokt.out (fun a n' c' e => by
      cases hT : sc.tag a.block with
      | none => rfl
      | some T =>
        have h1 := Xhscl.out a.block (by rw [hT]; simp)
        rcases hvY.2 with ⟨e1, _⟩ | ⟨g, cap, cur, e1, e2, _⟩
        · rw [e1] at e; cases e
        · rw [e1] at e
          injection e with e3
          injection e3 with e3
          subst e3
          simp only at h1
          omega)
    clear h4Y hvY
    have XhY := Lib.hid hY
    have XhYs := Lib.hid hYs
    have XhYl := Lib.hid hYl
    have Xb1Y := Lib.hid b1Y
    have XhAdd := Lib.hid hAdd
    clear hY hYs hYl b1Y hAdd
    gi_wp2
    refine ⟨trivial, rfl, (CallsIn.inRound l (callsIn_wide.2 XhAdd.out)).mono ?_⟩
    rintro e Y2 ⟨rfl, kA, tag2, vD2, hO2, hle2, hnew2⟩
    have hfin : bodyEndG (relSys B n P K) W3.heap.size l X.heap.size V s' Y Y2 (fun s'' => BoxAt Y2 nb 24 (.pointer (some ⟨B', 0, none⟩)) ∧ s''.tag nb = none ∧ RelSame s w s'' Y2 ∧ ∃ sc, RelInv B' n P' K' sc Y2 ∧ sc.ts = s.ts.take (k + 1) ∧ ∀ b, ¬ sc.tag b = none → w.heap.size ≤ b ∧ s''.tag b = none ∧ b ≠ nb ∧ ¬ U b ∧ b ≠ W3.heap.size ∧ b ≠ W3.heap.size + 1) := by
      have hno : ∀ b, (sc.tag b ≠ none → False) → sc.tag b = none := fun b hb => Classical.byContradiction hb
      refine ⟨s', ?_, ?_, RelBd.refl _ _, kA.mono (fun b _ hb => hno b fun hn => by have := (Xh6.out b hn).2.2.2.2; omega), Xb1Y.out.keep kA (hno nb fun hn => (Xh6.out nb hn).2.2.1 rfl), Xh2.out, ?_, ⟨tag2, addT n sc.ts t, vD2, sc.lm⟩, ⟨hO2, by have := addT_len n sc.ts t; rw [Xhadd.out, List.length_take]; omega⟩, Xhadd.out, fun b hb => ?_⟩
      · exact (relSys B n P K).invk ((relSys B n P K).invk XhinvX.out (XhY.out.mono fun b _ hb e => by subst e; exact hb Xhfl.out.1)) (kA.mono fun b _ hb => hno b fun hn => hb (Xh6.out b hn).2.1)
      · exact Xhit.out.vu _ _ (Xhit.out.vu _ _ XhVX.out (XhY.out.mono fun b _ hu => by have := XhUn.out b hu; omega)) (kA.mono fun b _ hu => hno b fun hn => (Xh6.out b hn).2.2.2.1 hu)
      · exact (Xh3X.out.keepOn XhY.out (fun b hb _ => by omega)).keepOn kA (fun b hb _ => hno b fun hn => by have := (Xh6.out b hn).1; omega)
      · have hb' : ¬ tag2 b = none := hb
        cases hT : tag2 b with
        | none => exact absurd hT hb'
        | some T =>
          rcases hnew2 b T hT with ⟨T', h1⟩ | h1
          · exact Xh6.out b (by rw [h1]; simp)
          · have hYs' := XhYs.out
            refine ⟨by omega, ?_, by omega, fun hu => by have := XhUn.out b hu; omega, by omega, by omega⟩
            cases hS : s'.tag b with
            | none => rfl
            | some T' => have := XhinvX.out.own.lt b T' hS; omega
    clear kA hO2 hle2 hnew2
    have Xhfin := Lib.hid hfin
    clear hfin
    gi_wp2
    exact Xhfin.out
  case done =>
    rintro D s' W hD hfD hWD hsd ⟨h1, h2, h3, sc, h4, h5, h6⟩ hinvW hVW
    have c1 := h1.cell
    have l1 := h1.lt
    rw [XhN.out, List.take_length] at h5
    have XhinvW := Lib.hid hinvW
    have XhVW := Lib.hid hVW
    have XhfD := Lib.hid hfD
    have XhWD := Lib.hid hWD
    have Xh1 := Lib.hid h1
    have Xh2 := Lib.hid h2
    have Xh3 := Lib.hid h3
    have Xh4 := Lib.hid h4
    have Xh5 := Lib.hid h5
    have Xh6 := Lib.hid h6
    clear hinvW hVW hfD hWD h1 h2 h3 h4 h5 h6
    gi_wp2
    refine leaves_mark XhWD.out (leaves_nil (v := .pointer (some ⟨B', 0, none⟩)) (by simp [results, Try.results26, go_sem]) ⟨B', P', K', sc, s', rfl, ?_, Xh5.out, fun b hb => ⟨(Xh6.out b hb).1, (Xh6.out b hb).2.1⟩, ?_, ?_⟩)
    · exact Xh4.out.keep (Keep.putObj _ _ _ (by
        intro hb
        have := (Xh6.out D hb).2.2.2.2.1
        omega))
    · exact (relSys B n P K).invk XhinvW.out (Keep.putObj _ _ _ (by simpa using XhfD.out))
    · exact Xh3.out.keepOn (Keep.putObj (C := fun b => b ≠ D) _ _ _ (by simp)) (fun b hb _ => by omega)
end Go.Proofs
