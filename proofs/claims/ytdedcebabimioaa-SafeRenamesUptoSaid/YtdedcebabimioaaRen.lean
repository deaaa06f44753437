/- The law SafeRenames: its walk. -/
import Derived.Test.YtdedcebabimioaaProg
import Derived.Test.YtdedcebabimioaaKnown
import Derived.Test.YtdedcebabimioaaVars
import Derived.Test.YtdedcebabimioaaRenLaw
import Derived.Test.YtdedcebabimioaaWay
import Derived.Test.YtdedcebabimioaaSmall
namespace Go.Proofs
open Go.RowKit Go.Ink
set_option linter.unusedVariables false
set_option linter.unusedSimpArgs false
attribute [local go_sem] Oper.semAt_some

theorem RuleIn.at_ {n : Nat} {w w' : World} {sh sb : Value} {r : RuleD} (h : RuleIn n w sh sb r) (hK : Keep (fun k => k < n) w w') (hn : n ≤ w'.heap.size) : RuleIn w'.heap.size w' sh sb r := (h.keep hK).wider hn

/-- the two rules in memory -/
structure TwoR (r s : RuleD) (sh sb vh vb : Value) (B2 B5 n : Nat) (W : World) : Prop where
  b2 : W.heap[B2]? = some (.cells #[.string r.head.pred, sh, sb] 27 (0, 0))
  b5 : W.heap[B5]? = some (.cells #[.string s.head.pred, vh, vb] 27 (0, 0))
  l2 : B2 < n
  l5 : B5 < n
  lw : n ≤ W.heap.size
  r2 : RuleIn n W sh sb r
  r5 : RuleIn n W vh vb s
theorem TwoR.keep {r s : RuleD} {sh sb vh vb : Value} {B2 B5 n : Nat} {W W' : World} (h : TwoR r s sh sb vh vb B2 B5 n W) {m : Nat} (hK : Keep (fun k => k < m) W W') (hm : n ≤ m) : TwoR r s sh sb vh vb B2 B5 n W' :=
  ⟨hK.heap h.b2 (by have := h.l2; omega), hK.heap h.b5 (by have := h.l5; omega), h.l2, h.l5, Nat.le_trans h.lw hK.size, h.r2.keep (hK.mono fun b _ hb => by omega), h.r5.keep (hK.mono fun b _ hb => by omega)⟩
theorem TwoR.first {r s : RuleD} {sh sb vh vb : Value} {B2 B5 n : Nat} {W : World} (h : TwoR r s sh sb vh vb B2 B5 n W) : RuleIn W.heap.size W sh sb r := h.r2.wider h.lw
theorem TwoR.second {r s : RuleD} {sh sb vh vb : Value} {B2 B5 n : Nat} {W : World} (h : TwoR r s sh sb vh vb B2 B5 n W) : RuleIn W.heap.size W vh vb s := h.r5.wider h.lw
theorem TwoR.cells {r s : RuleD} {sh sb vh vb : Value} {B2 B5 n : Nat} {W : World} (h : TwoR r s sh sb vh vb B2 B5 n W) :
    W.cell? ⟨B2, 0, none⟩ = some (.string r.head.pred) ∧ W.cell? ⟨B2, 1, none⟩ = some sh ∧ W.cell? ⟨B2, 2, none⟩ = some sb ∧ W.cell? ⟨B5, 0, none⟩ = some (.string s.head.pred) ∧ W.cell? ⟨B5, 1, none⟩ = some vh ∧ W.cell? ⟨B5, 2, none⟩ = some vb := by
  have a0 := cells_of_block h.b2 0 _ rfl
  have a1 := cells_of_block h.b2 1 _ rfl
  have a2 := cells_of_block h.b2 2 _ rfl
  have c0 := cells_of_block h.b5 0 _ rfl
  have c1 := cells_of_block h.b5 1 _ rfl
  have c2 := cells_of_block h.b5 2 _ rfl
  simp only [Nat.zero_add] at a0 a1 a2 c0 c1 c2
  exact ⟨a0, a1, a2, c0, c1, c2⟩

theorem strs_stay {n : Nat} {w w' : World} {v : Value} {ss : List ByteArray} (h : StrsIn n w v ss) {m : Nat} (hK : Keep (fun k => k < m) w w') (hm : n ≤ m) : StrsIn n w' v ss :=
  strs_keep h (hK.mono fun b _ hb => by omega)
theorem ints_stay {n : Nat} {w w' : World} {v : Value} {ss : List Int} (h : IntsIn n w v ss) {m : Nat} (hK : Keep (fun k => k < m) w w') (hm : n ≤ m) : IntsIn n w' v ss :=
  h.mono fun _ _ _ hb h => hK.cell h (Nat.lt_of_lt_of_le hb hm)
theorem ints_wider {n n' : Nat} {w : World} {v : Value} {ss : List Int} (h : IntsIn n w v ss) (hn : n ≤ n') : IntsIn n' w v ss :=
  SliceIn.wider h hn fun _ _ _ _ h => h
theorem own_nats {w : World} {base : Nat} {e : TypeId} {v : Value} {n : Nat} {ss : List Nat} (h : w.ownsRow base e 1 v n (ss.map fun i : Nat => Value.int .i64 (i : Int))) (hb : ss.length ≤ 1073741824) : IntsIn w.heap.size w v (ss.map fun i : Nat => (i : Int)) :=
  own_ints (by rw [List.map_map]; exact h) (by simpa using hb)
theorem bound_names {r : RuleD} {x : ByteArray} (h : x ∈ boundOf r.body) : x ∈ r.names := by
  rw [boundOf, onceL_mem] at h
  rw [names_eq]
  obtain ⟨L, hL, hx⟩ := List.mem_flatMap.1 h
  exact List.mem_append_right _ (List.mem_flatMap.2 ⟨L, (List.mem_filter.1 hL).1, hx⟩)
/-- four rows of texts -/
structure Four (n : Nat) (x1 x2 x3 x4 : Value) (s1 s2 s3 s4 : List ByteArray) (W : World) : Prop where
  f1 : StrsIn n W x1 s1
  f2 : StrsIn n W x2 s2
  f3 : StrsIn n W x3 s3
  f4 : StrsIn n W x4 s4
  lw : n ≤ W.heap.size
theorem Four.keep {n : Nat} {x1 x2 x3 x4 : Value} {s1 s2 s3 s4 : List ByteArray} {W W' : World} (h : Four n x1 x2 x3 x4 s1 s2 s3 s4 W) {m : Nat} (hK : Keep (fun k => k < m) W W') (hm : n ≤ m) : Four n x1 x2 x3 x4 s1 s2 s3 s4 W' :=
  ⟨strs_stay h.f1 hK hm, strs_stay h.f2 hK hm, strs_stay h.f3 hK hm, strs_stay h.f4 hK hm, Nat.le_trans h.lw hK.size⟩

set_option maxRecDepth 100000 in
set_option maxHeartbeats 2000000 in
theorem safeRenames_walk (r : RuleD) (sh sb : Value) (more : ByteArray) (w : World) (hr : RuleIn w.heap.size w sh sb r) (hN : r.stands.length ≤ 1073741824) (hN2 : (r.body.flatMap LitD.uses).length ≤ 1073741824) (hlen : r.body.length ≤ 268435456)
    (hz : ∀ L, L ∈ r.body → ∀ t, t ∈ L.left :: L.right :: L.atom.args → t.text.size + more.size ≤ 9223372036854775807) (hzh : ∀ t, t ∈ r.head.args → t.text.size + more.size ≤ 9223372036854775807)
    (hzn : ∀ x, x ∈ r.names → x.size + more.size ≤ 9223372036854775807) :
    Calls Try.prog 5 #[.agg #[.string r.head.pred, sh, sb], .string more] w fun e w' => e = .returned (.bool true) ∧ Keep (fun k => k < w.heap.size) w w' := by
  obtain ⟨⟨ah, capH, rfl, hlenh, hcaph, helh⟩, ⟨ab, capB, rfl, hlenb, hcapb, helb⟩⟩ := id hr
  have hN' : (renR more r).stands.length ≤ 1073741824 := by
    have h : (renR more r).names.length = r.names.length := by rw [names_ren, List.length_map]
    simp only [RuleD.names, List.length_map] at h
    omega
  have hN2' : ((renR more r).body.flatMap LitD.uses).length ≤ 1073741824 := by
    have h : (renR more r).body = r.body.map (renL more) := rfl
    rw [h, flat_ren, List.length_map]; exact hN2
  have hlen' : (renR more r).body.length ≤ 268435456 := by simpa [renR] using hlen
  have hn1 : onceL (renR more r).names = (onceL r.names).map (· ++ more) := by rw [names_ren, once_ren]
  have hn2 : boundOf (renR more r).body = (boundOf r.body).map (· ++ more) := bound_ren more r.body
  have hl2 : looseOf (renR more r) = (looseOf r).map (· ++ more) := loose_ren more r
  have hw2 : wayD (renR more r).body = wayD r.body := way_ren more r.body
  have hln : (onceL r.names).length ≤ 1073741824 := by
    refine Nat.le_trans (onceL_len _) ?_
    simpa [RuleD.names] using hN
  have hlb : (boundOf r.body).length ≤ 1073741824 := by
    refine Nat.le_trans (onceL_len _) (Nat.le_trans ?_ hN2)
    exact bound_flat r.body
  have hren := fun (w : World) (h : RuleIn w.heap.size w (.slice ah r.head.args.length capH) (.slice ab r.body.length capB) r) => renamed_any r (.slice ah r.head.args.length capH) (.slice ab r.body.length capB) more w h hz hzh
  obtain ⟨s, hs⟩ : ∃ s, renR more r = s := ⟨_, rfl⟩
  have hps : s.head.pred = r.head.pred := by rw [← hs]; rfl
  rw [hs] at hN' hN2' hlen' hren hn1 hn2 hl2 hw2
  have Xhr := Lib.hid hr
  have Xhelh := Lib.hid helh
  have Xhelb := Lib.hid helb
  have XhN := Lib.hid hN
  have XhN2 := Lib.hid hN2
  have Xhlen := Lib.hid hlen
  have XhN' := Lib.hid hN'
  have XhN2' := Lib.hid hN2'
  have Xhlen' := Lib.hid hlen'
  have Xhz := Lib.hid hz
  have Xhzh := Lib.hid hzh
  have Xhzn := Lib.hid hzn
  have Xhs := Lib.hid hs
  have Xhren := Lib.hid hren
  have Xhps := Lib.hid hps
  have Xhn1 := Lib.hid hn1
  have Xhn2 := Lib.hid hn2
  have Xhl2 := Lib.hid hl2
  have Xhw2 := Lib.hid hw2
  have Xhln := Lib.hid hln
  have Xhlb := Lib.hid hlb
  clear hr helh helb hN hN2 hlen hN' hN2' hlen' hz hzh hzn hs hren hps hn1 hn2 hl2 hw2 hln hlb
  go_enter Try.func5, Try.ntmps5
  go_wp2_with fail
  refine (Xhren.out _ ((Xhr.out.keep (Keep.alloc _ _ _)).wider (by simp))).mono ?_
  rintro e W1 ⟨vh, vb, rfl, k1, hr1⟩
  have z1 := k1.size
  simp only [World.size_alloc] at z1
  obtain ⟨⟨a1, c1, rfl, hl1, hc1, he1⟩, ⟨a2, c2, rfl, hl2, hc2, he2⟩⟩ := id hr1
  have a1 := k1.heap (new_block w _) (by simp)
  have kw1 : Keep (fun k => k < w.heap.size) w W1 := (Keep.alloc _ _ _).trans (k1.mono fun b _ h => by simp; omega)
  clear k1
  have Xhr1 := Lib.hid hr1
  have Xhe1 := Lib.hid he1
  have Xhe2 := Lib.hid he2
  have Xkw1 := Lib.hid kw1
  have Xa1 := Lib.hid a1
  clear hr1 he1 he2 kw1 a1
  go_wp2_with fail
  refine wp_abs (fun W0 => TwoR r s (.slice ah r.head.args.length capH) (.slice ab r.body.length capB) (.slice a1 s.head.args.length c1) (.slice a2 s.body.length c2) w.heap.size W1.heap.size (W1.heap.size + 1) W0 ∧ Keep (fun k => k < w.heap.size) w W0) ⟨⟨old_block Xa1.out _, by rw [Xhps.out]; exact new_block _ _, by omega, by omega, by simp, (Xhr.out.keep (Xkw1.out.trans (Keep.alloc _ _ _))).wider (by omega), (Xhr1.out.keep (Keep.alloc _ _ _)).wider (by omega)⟩, Xkw1.out.trans (Keep.alloc _ _ _)⟩ ?_
  rintro W0 ⟨hT, kw⟩
  have hS0 := (hT.keep (m := W0.heap.size) (Keep.drew _ W0) hT.lw).cells
  have hTd := hT.keep (m := W0.heap.size) (Keep.drew _ W0) hT.lw
  have lw0 := hT.lw
  have XhT := Lib.hid hT
  have Xkw := Lib.hid kw
  have XhTd := Lib.hid hTd
  have XhS0 := Lib.hid hS0
  clear hT kw hTd hS0
  refine region_hoist rfl (fun W => W.cell? ⟨w.heap.size, 0, none⟩ = some (.string r.head.pred) ∧ W.cell? ⟨w.heap.size, 1, none⟩ = some (.slice ah r.head.args.length capH) ∧ W.cell? ⟨w.heap.size, 2, none⟩ = some (.slice ab r.body.length capB) ∧ W.cell? ⟨W1.heap.size, 0, none⟩ = some (.string s.head.pred) ∧ W.cell? ⟨W1.heap.size, 1, none⟩ = some (.slice a1 s.head.args.length c1) ∧ W.cell? ⟨W1.heap.size, 2, none⟩ = some (.slice a2 s.body.length c2)) [] ?_
  refine hoist_take (i := 0) (v := ?_) rfl (by kernel_rfl) (by kernel_rfl) (by kernel_rfl) (by kernel_rfl) (fun _ _ _ h => h) XhS0.out (Or.inl ⟨by rfl, ?_⟩) ?_
  rotate_left
  · intro Wq hWq
    obtain ⟨x0, x1, x2, x3, x4, x5⟩ := hWq
    go_simp
    try with_reducible rfl
  try simp only [Act.put, List.setIfInBounds_toArray, List.set_cons_zero, List.set_cons_succ]
  refine hoist_take (i := 2) (v := ?_) rfl (by kernel_rfl) (by kernel_rfl) (by kernel_rfl) (by kernel_rfl) (fun _ _ _ h => h) XhS0.out (Or.inl ⟨by rfl, ?_⟩) ?_
  rotate_left
  · intro Wq hWq
    obtain ⟨x0, x1, x2, x3, x4, x5⟩ := hWq
    go_simp
    try with_reducible rfl
  try simp only [Act.put, List.setIfInBounds_toArray, List.set_cons_zero, List.set_cons_succ]
  refine hoist_one (i := 1) rfl (by kernel_rfl) (fun K hK => ?_)
  have XhK0 := Lib.hid hK
  clear hK
  go_wp2_with fail
  refine (vars_any r (.slice ah r.head.args.length capH) (.slice ab r.body.length capB) _ XhTd.out.first XhN.out).mono ?_
  rintro e w1 ⟨v1, rfl, hk1, ho1⟩
  have z2 := hk1.size
  simp only [World.size_drew] at z2
  have hT1 := XhTd.out.keep hk1 (by simp; omega)
  have hS1 := hT1.cells
  have Xhk1 := Lib.hid hk1
  have Xho1 := Lib.hid ho1
  have XhT1 := Lib.hid hT1
  have XhS1 := Lib.hid hS1
  clear hk1 ho1 hT1 hS1
  go_wp2_with fail
  refine XhK0.out _ _ (fun _ => XhS1.out) ?_
  refine hoist_one (i := 3) rfl (by kernel_rfl) (fun K hK => ?_)
  have XhK1 := Lib.hid hK
  clear hK
  go_wp2_with fail
  refine (vars_any s (.slice a1 s.head.args.length c1) (.slice a2 s.body.length c2) _ XhT1.out.second XhN'.out).mono ?_
  rintro e w2 ⟨v2, rfl, hk2, ho2⟩
  have z3 := hk2.size
  have hT2 := XhT1.out.keep hk2 XhT1.out.lw
  have hS2 := hT2.cells
  rw [Xhn1.out] at ho2
  rw [List.length_map] at ho2
  have hV1 := strs_stay (own_strs Xho1.out Xhln.out) hk2 (Nat.le_refl _)
  have hV2 := own_strs ho2 (by rw [List.length_map]; exact Xhln.out)
  obtain ⟨av1, cv1, rfl⟩ := own_form Xho1.out
  obtain ⟨av2, cv2, rfl⟩ := own_form ho2
  have kw2 : Keep (fun k => k < w.heap.size) w w2 := ((Xkw.out.trans (Keep.drew _ _)).trans (Xhk1.out.mono fun b _ h => by simp; omega)).trans (hk2.mono fun b _ h => by omega)
  have hV1' := strs_wider hV1 (show w1.heap.size ≤ w2.heap.size by omega)
  have Xhk2 := Lib.hid hk2
  have Xho2 := Lib.hid ho2
  have XhT2 := Lib.hid hT2
  have XhS2 := Lib.hid hS2
  have XhV1 := Lib.hid hV1
  have XhV1' := Lib.hid hV1'
  have XhV2 := Lib.hid hV2
  have Xkw2 := Lib.hid kw2
  clear hk2 ho2 hT2 hS2 hV1 hV1' hV2 kw2
  go_wp2_with fail
  refine XhK1.out _ _ (fun _ => XhS2.out) ?_
  refine hoist_one (i := 4) rfl (by kernel_rfl) (fun K hK => ?_)
  have XhK2 := Lib.hid hK
  clear hK
  go_wp2_with fail
  refine XhK2.out _ _ (fun _ => XhS2.out) ?_
  refine hoist_one (i := 5) rfl (by kernel_rfl) (fun K hK => ?_)
  have XhK3 := Lib.hid hK
  clear hK
  go_wp2_with fail
  refine XhK3.out _ _ (fun _ => XhS2.out) ?_
  refine hoist_done (by kernel_rfl) ?_
  refine post_abs (fun W => TwoR r s (.slice ah r.head.args.length capH) (.slice ab r.body.length capB) (.slice a1 s.head.args.length c1) (.slice a2 s.body.length c2) w.heap.size W1.heap.size (W1.heap.size + 1) W ∧ Keep (fun k => k < w.heap.size) w W ∧
      StrsIn W.heap.size W (.slice av1 (onceL r.names).length cv1) (onceL r.names) ∧ StrsIn W.heap.size W (.slice av2 (onceL r.names).length cv2) ((onceL r.names).map (· ++ more))) ⟨XhT2.out, Xkw2.out, XhV1'.out, XhV2.out⟩ ?_
  clear XhK0 XhK1 XhK2 XhK3 Xhk1 Xhk2 Xho1 Xho2 XhT1 XhT2 XhS0 XhS1 XhS2 XhV1 XhV1' XhV2 Xkw2 XhT XhTd Xkw z2 z3 lw0
  rintro W3 ⟨hT, kw, hV1, hV2⟩
  have hTd := hT.keep (m := W3.heap.size) (Keep.drew _ W3) hT.lw
  have hS0 := hTd.cells
  have lw3 := hT.lw
  have XhT := Lib.hid hT
  have Xkw := Lib.hid kw
  have XhV1 := Lib.hid hV1
  have XhV2 := Lib.hid hV2
  have XhTd := Lib.hid hTd
  have XhS0 := Lib.hid hS0
  clear hT kw hV1 hV2 hTd hS0
  go_wp2_with fail
  refine region_hoist rfl (fun W => W.cell? ⟨w.heap.size, 0, none⟩ = some (.string r.head.pred) ∧ W.cell? ⟨w.heap.size, 1, none⟩ = some (.slice ah r.head.args.length capH) ∧ W.cell? ⟨w.heap.size, 2, none⟩ = some (.slice ab r.body.length capB) ∧ W.cell? ⟨W1.heap.size, 0, none⟩ = some (.string s.head.pred) ∧ W.cell? ⟨W1.heap.size, 1, none⟩ = some (.slice a1 s.head.args.length c1) ∧ W.cell? ⟨W1.heap.size, 2, none⟩ = some (.slice a2 s.body.length c2)) [] ?_
  refine hoist_take (i := 0) (v := ?_) rfl (by kernel_rfl) (by kernel_rfl) (by kernel_rfl) (by kernel_rfl) (fun _ _ _ h => h) XhS0.out (Or.inl ⟨by rfl, ?_⟩) ?_
  rotate_left
  · intro Wq hWq
    obtain ⟨x0, x1, x2, x3, x4, x5⟩ := hWq
    go_simp
    try with_reducible rfl
  try simp only [Act.put, List.setIfInBounds_toArray, List.set_cons_zero, List.set_cons_succ]
  refine hoist_take (i := 1) (v := ?_) rfl (by kernel_rfl) (by kernel_rfl) (by kernel_rfl) (by kernel_rfl) (fun _ _ _ h => h) XhS0.out (Or.inl ⟨by rfl, ?_⟩) ?_
  rotate_left
  · intro Wq hWq
    obtain ⟨x0, x1, x2, x3, x4, x5⟩ := hWq
    go_simp
    try with_reducible rfl
  try simp only [Act.put, List.setIfInBounds_toArray, List.set_cons_zero, List.set_cons_succ]
  refine hoist_take (i := 3) (v := ?_) rfl (by kernel_rfl) (by kernel_rfl) (by kernel_rfl) (by kernel_rfl) (fun _ _ _ h => h) XhS0.out (Or.inl ⟨by rfl, ?_⟩) ?_
  rotate_left
  · intro Wq hWq
    obtain ⟨x0, x1, x2, x3, x4, x5⟩ := hWq
    go_simp
    try with_reducible rfl
  try simp only [Act.put, List.setIfInBounds_toArray, List.set_cons_zero, List.set_cons_succ]
  refine hoist_take (i := 4) (v := ?_) rfl (by kernel_rfl) (by kernel_rfl) (by kernel_rfl) (by kernel_rfl) (fun _ _ _ h => h) XhS0.out (Or.inl ⟨by rfl, ?_⟩) ?_
  rotate_left
  · intro Wq hWq
    obtain ⟨x0, x1, x2, x3, x4, x5⟩ := hWq
    go_simp
    try with_reducible rfl
  try simp only [Act.put, List.setIfInBounds_toArray, List.set_cons_zero, List.set_cons_succ]
  refine hoist_one (i := 2) rfl (by kernel_rfl) (fun K hK => ?_)
  have XhK0 := Lib.hid hK
  clear hK
  go_wp2_with fail
  refine (bound_any (W1.heap.size + 1) (.slice ab r.body.length capB) r.body _ XhTd.out.r2.2 (by simp; omega) XhN2.out).mono ?_
  rintro e w1 ⟨v3, rfl, hk1, ho1⟩
  have z2 := hk1.size
  simp only [World.size_drew] at z2
  have hT1 := XhTd.out.keep hk1 (by simp; omega)
  have hS1 := hT1.cells
  have Xhk1 := Lib.hid hk1
  have Xho1 := Lib.hid ho1
  have XhT1 := Lib.hid hT1
  have XhS1 := Lib.hid hS1
  clear hk1 ho1 hT1 hS1
  go_wp2_with fail
  refine XhK0.out _ _ (fun _ => XhS1.out) ?_
  refine hoist_one (i := 5) rfl (by kernel_rfl) (fun K hK => ?_)
  have XhK1 := Lib.hid hK
  clear hK
  go_wp2_with fail
  refine (bound_any (W1.heap.size + 1) (.slice a2 s.body.length c2) s.body _ XhT1.out.r5.2 (by omega) XhN2'.out).mono ?_
  rintro e w2 ⟨v4, rfl, hk2, ho2⟩
  have z3 := hk2.size
  have hT2 := XhT1.out.keep hk2 XhT1.out.lw
  have hS2 := hT2.cells
  rw [Xhn2.out] at ho2
  rw [List.length_map] at ho2
  have hV3 := strs_wider (strs_stay (own_strs Xho1.out Xhlb.out) hk2 (Nat.le_refl _)) (show w1.heap.size ≤ w2.heap.size by omega)
  have hV4 := own_strs ho2 (by rw [List.length_map]; exact Xhlb.out)
  obtain ⟨av3, cv3, rfl⟩ := own_form Xho1.out
  obtain ⟨av4, cv4, rfl⟩ := own_form ho2
  have k3 : Keep (fun k => k < W3.heap.size) W3 w2 := ((Keep.drew _ _).trans (Xhk1.out.mono fun b _ h => by simp; omega)).trans (hk2.mono fun b _ h => by omega)
  have kw2 : Keep (fun k => k < w.heap.size) w w2 := Xkw.out.trans (k3.mono fun b _ h => by omega)
  have hF : Four w2.heap.size (.slice av1 (onceL r.names).length cv1) (.slice av2 (onceL r.names).length cv2) (.slice av3 (boundOf r.body).length cv3) (.slice av4 (boundOf r.body).length cv4) (onceL r.names) ((onceL r.names).map (· ++ more)) (boundOf r.body) ((boundOf r.body).map (· ++ more)) w2 :=
    ⟨strs_wider (strs_stay XhV1.out k3 (Nat.le_refl _)) (by omega), strs_wider (strs_stay XhV2.out k3 (Nat.le_refl _)) (by omega), hV3, hV4, Nat.le_refl _⟩
  have Xhk2 := Lib.hid hk2
  have Xho2 := Lib.hid ho2
  have XhT2 := Lib.hid hT2
  have XhS2 := Lib.hid hS2
  have XhV3 := Lib.hid hV3
  have XhV4 := Lib.hid hV4
  have Xkw2 := Lib.hid kw2
  have Xk3 := Lib.hid k3
  have XhF := Lib.hid hF
  clear hk2 ho2 hT2 hS2 hV3 hV4 kw2 k3 hF
  go_wp2_with fail
  refine XhK1.out _ _ (fun _ => XhS2.out) ?_
  refine hoist_one (i := 6) rfl (by kernel_rfl) (fun K hK => ?_)
  have XhK2 := Lib.hid hK
  clear hK
  go_wp2_with fail
  refine XhK2.out _ _ (fun _ => XhS2.out) ?_
  refine hoist_one (i := 7) rfl (by kernel_rfl) (fun K hK => ?_)
  have XhK3 := Lib.hid hK
  clear hK
  go_wp2_with fail
  refine XhK3.out _ _ (fun _ => XhS2.out) ?_
  refine hoist_done (by kernel_rfl) ?_
  refine post_abs (fun W => TwoR r s (.slice ah r.head.args.length capH) (.slice ab r.body.length capB) (.slice a1 s.head.args.length c1) (.slice a2 s.body.length c2) w.heap.size W1.heap.size (W1.heap.size + 1) W ∧ Keep (fun k => k < w.heap.size) w W ∧
      Four W.heap.size (.slice av1 (onceL r.names).length cv1) (.slice av2 (onceL r.names).length cv2) (.slice av3 (boundOf r.body).length cv3) (.slice av4 (boundOf r.body).length cv4) (onceL r.names) ((onceL r.names).map (· ++ more)) (boundOf r.body) ((boundOf r.body).map (· ++ more)) W) ⟨XhT2.out, Xkw2.out, XhF.out⟩ ?_
  clear XhK0 XhK1 XhK2 XhK3 Xhk1 Xhk2 Xho1 Xho2 XhT1 XhT2 XhS0 XhS1 XhS2 XhV1 XhV2 XhV3 XhV4 Xkw2 XhT XhTd Xkw z2 z3 lw3 Xk3 XhF
  rintro W4 ⟨hT, kw, hF⟩
  obtain ⟨d0, d1, d2, d3, d4, d5⟩ := hT.cells
  have lw4 := hT.lw
  have XhT := Lib.hid hT
  have Xkw := Lib.hid kw
  have XhF := Lib.hid hF
  clear hT kw hF
  go_wp2_with fail
  refine (way_any r (.slice ah r.head.args.length capH) (.slice ab r.body.length capB) _ XhT.out.first Xhlen.out).mono ?_
  rintro e W5 ⟨v5, rfl, k5, ho5⟩
  have z5 := k5.size
  have hT5 := XhT.out.keep k5 XhT.out.lw
  have hF5 := XhF.out.keep k5 (Nat.le_refl _)
  have kw5 : Keep (fun k => k < w.heap.size) w W5 := Xkw.out.trans (k5.mono fun b _ h => by omega)
  clear d0 d1 d2 d3 d4 d5
  obtain ⟨d0, d1, d2, d3, d4, d5⟩ := hT5.cells
  have XhT' := XhT
  clear XhT XhF Xkw k5 XhT'
  have XhT5 := Lib.hid hT5
  have XhF5 := Lib.hid hF5
  have Xkw5 := Lib.hid kw5
  have Xho5 := Lib.hid ho5
  clear hT5 hF5 kw5 ho5
  go_wp2_with fail
  refine (way_any s (.slice a1 s.head.args.length c1) (.slice a2 s.body.length c2) _ XhT5.out.second Xhlen'.out).mono ?_
  rintro e W6 ⟨v6, rfl, k6, ho6⟩
  have z6 := k6.size
  rw [Xhw2.out] at ho6
  rw [Xhw2.out]
  have hT6 := XhT5.out.keep k6 XhT5.out.lw
  have hF6 := XhF5.out.keep k6 (by omega)
  have kw6 : Keep (fun k => k < w.heap.size) w W6 := Xkw5.out.trans (k6.mono fun b _ h => by have := XhT5.out.lw; omega)
  have hwl : (wayD r.body).1.length ≤ 1073741824 := Nat.le_trans (wayD_len r.body) (by have := Xhlen.out; omega)
  have hW5 := ints_wider (ints_stay (own_nats Xho5.out hwl) k6 (Nat.le_refl _)) z6
  have hW6 := own_nats ho6 hwl
  obtain ⟨av5, cv5, rfl⟩ := own_form Xho5.out
  obtain ⟨av6, cv6, rfl⟩ := own_form ho6
  clear d0 d1 d2 d3 d4 d5
  obtain ⟨d0, d1, d2, d3, d4, d5⟩ := hT6.cells
  clear XhT5 XhF5 Xkw5 k6 Xho5 ho6
  have XhT6 := Lib.hid hT6
  have XhF6 := Lib.hid hF6
  have Xkw6 := Lib.hid kw6
  have XhW5 := Lib.hid hW5
  have XhW6 := Lib.hid hW6
  clear hT6 hF6 kw6 hW5 hW6
  go_wp2_with fail
  refine (rule_any r (.slice ah r.head.args.length capH) (.slice ab r.body.length capB) _ XhT6.out.first XhN2.out).mono ?_
  rintro e W7 ⟨rfl, k7⟩
  have z7 := k7.size
  have hT7 := XhT6.out.keep k7 XhT6.out.lw
  have hF7 := XhF6.out.keep k7 (by omega)
  have kw7 : Keep (fun k => k < w.heap.size) w W7 := Xkw6.out.trans (k7.mono fun b _ h => by have := XhT6.out.lw; omega)
  have hW57 := ints_stay XhW5.out k7 (Nat.le_refl _)
  have hW67 := ints_stay XhW6.out k7 (Nat.le_refl _)
  clear d0 d1 d2 d3 d4 d5
  obtain ⟨d0, d1, d2, d3, d4, d5⟩ := hT7.cells
  clear XhT6 XhF6 Xkw6 k7 XhW5 XhW6
  have XhT7 := Lib.hid hT7
  have XhF7 := Lib.hid hF7
  have Xkw7 := Lib.hid kw7
  have XhW57 := Lib.hid hW57
  have XhW67 := Lib.hid hW67
  clear hT7 hF7 kw7 hW57 hW67
  have hbb : ((wayD r.body).2 != (wayD r.body).2) = false := by simp
  cases hloo : looseOf r
  case' none =>
    have hls : looseOf s = none := by rw [Xhl2.out, hloo]; rfl
    have hadd : True := trivial
    have hne : True := trivial
  case' some x =>
    have hls : looseOf s = some (x ++ more) := by rw [Xhl2.out, hloo]; rfl
    have hadd : ∀ w', (Op.stringOp .add x more).run Try.prog w' = .ok (.string (x ++ more)) w' := fun w' => by apply run_string_add_sum; exact Xhzn.out x (List.mem_of_find?_eq_some hloo)
    have hne : ((x ++ more).toList == (x ++ more).toList) = true := str_same rfl
  all_goals
    simp only [ruleAns]
    have Xhls := Lib.hid hls
    clear hls
    clear hloo
    go_wp2_with fail
    refine (rule_any s (.slice a1 s.head.args.length c1) (.slice a2 s.body.length c2) _ XhT7.out.second XhN2'.out).mono ?_
    rintro e W8 ⟨rfl, k8⟩
    rw [Xhls.out]
    simp only [ruleAns]
    have z8 := k8.size
    have hF8 := XhF7.out.keep k8 (by omega)
    have kw8 : Keep (fun k => k < w.heap.size) w W8 := Xkw7.out.trans (k8.mono fun b _ h => by have := XhT7.out.lw; omega)
    have hW58 := ints_stay XhW57.out k8 (by omega)
    have hW68 := ints_stay XhW67.out k8 (by omega)
    clear d0 d1 d2 d3 d4 d5 XhT7 XhF7 Xkw7 k8 XhW57 XhW67 Xhls
    have XhF8 := Lib.hid hF8
    have Xkw8 := Lib.hid kw8
    have XhW58 := Lib.hid hW58
    have XhW68 := Lib.hid hW68
    clear hF8 kw8 hW58 hW68
    go_wp2_with fail
    refine (sameInts_any W6.heap.size _ _ _ _ W8 XhW58.out XhW68.out (by omega)).mono ?_
    rintro e W9 ⟨rfl, k9⟩
    rw [decide_eq_true (Eq.refl ((wayD r.body).1.map fun i : Nat => (i : Int)))]
    have hF9 := XhF8.out.keep (k9.mono fun _ _ _ => trivial) (Nat.le_refl _)
    have kw9 : Keep (fun k => k < w.heap.size) w W9 := Xkw8.out.trans (k9.mono fun _ _ _ => trivial)
    clear XhF8 Xkw8 XhW58 XhW68 k9
    have XhF9 := Lib.hid hF9
    have Xkw9 := Lib.hid kw9
    clear hF9 kw9
    go_wp2_with fail
    obtain ⟨q1, p1, hq1, _, hcc1, g1⟩ := XhF9.out.f1
    obtain ⟨q2, p2, hq2, _, hcc2, g2⟩ := XhF9.out.f2
    have lw9 := XhF9.out.lw
    rw [List.length_map] at hq2
    cases hq1
    cases hq2
    have Xg1 := Lib.hid g1
    have Xg2 := Lib.hid g2
    clear g1 g2
    go_loopw [18] (fun i wr => ∃ k : Nat, k ≤ (onceL r.names).length ∧ i = .int .i64 k ∧ Keep (fun _ => True) W9 wr) (fun i _ => (onceL r.names).length - (intOf i).toNat)
    case atStart => exact ⟨0, by omega, rfl, Keep.refl _ _⟩
    case round =>
      obtain ⟨k, hk, rfl, hK⟩ := hrel
      by_cases hlt : k < (onceL r.names).length
      · obtain ⟨y, hy⟩ : ∃ y, ((onceL r.names))[k]? = some y := ⟨_, List.getElem?_eq_getElem hlt⟩
        obtain ⟨ba, oa, rfl, hba, hxa⟩ := Xg1.out k y hy
        obtain ⟨bb, ob, rfl, hbb2, hyb⟩ := Xg2.out k (y ++ more) (by rw [List.getElem?_map, hy]; rfl)
        have f1 := hK.cell hxa trivial
        have f2 := hK.cell hyb trivial
        simp only [Nat.mul_one] at f1 f2
        have hszk := hK.size
        have hb1 : ba < wr.heap.size := by omega
        have hb2 : bb < wr.heap.size := by omega
        have hlt1 : (k : Int) < ((onceL r.names)).length := by omega
        have hk0 : (0 : Int) ≤ k := by omega
        have hadd2 : ∀ w', (Op.stringOp .add y more).run Try.prog w' = .ok (.string (y ++ more)) w' := fun w' => by apply run_string_add_sum; exact Xhzn.out y ((onceL_mem _ _).1 (List.mem_of_getElem? hy))
        have hne2 : ((y ++ more).toList == (y ++ more).toList) = true := str_same rfl
        clear hxa hyb hy
        have XhK := Lib.hid hK
        clear hK
        go_wp2_with fail
        go_quiet (fail)
        go_wp2_with fail
        go_roundw
        case rel => exact ⟨k + 1, by omega, by go_num, XhK.out.trans (Keep.drewN' _ _ _)⟩
        case measure => simp [intOf]; omega
      · obtain rfl : k = (onceL r.names).length := by omega
        have kw10 : Keep (fun k => k < w.heap.size) w wr := Xkw9.out.trans (hK.mono fun _ _ _ => trivial)
        have hF10 := XhF9.out.keep (hK.mono fun _ _ _ => trivial) (Nat.le_refl _)
        clear hK XhF9 Xkw9
        obtain ⟨q3, p3, hq3, _, hcc3, g3⟩ := hF10.f3
        obtain ⟨q4, p4, hq4, _, hcc4, g4⟩ := hF10.f4
        have lw10 := hF10.lw
        rw [List.length_map] at hq4
        cases hq3
        cases hq4
        obtain ⟨W10, hW10⟩ : ∃ W10, W10 = wr := ⟨_, rfl⟩
        rw [← hW10] at kw10 g3 g4 lw10 ⊢
        clear hF10 hW10
        have Xg3 := Lib.hid g3
        have Xg4 := Lib.hid g4
        have Xkw10 := Lib.hid kw10
        clear g3 g4 kw10
        go_wp2_with fail
        go_loopw [19] (fun i wr => ∃ k : Nat, k ≤ (boundOf r.body).length ∧ i = .int .i64 k ∧ Keep (fun _ => True) W10 wr) (fun i _ => (boundOf r.body).length - (intOf i).toNat)
        case atStart => exact ⟨0, by omega, rfl, Keep.refl _ _⟩
        case round =>
          obtain ⟨k, hk, rfl, hK⟩ := hrel
          by_cases hlt : k < (boundOf r.body).length
          · obtain ⟨y, hy⟩ : ∃ y, ((boundOf r.body))[k]? = some y := ⟨_, List.getElem?_eq_getElem hlt⟩
            obtain ⟨ba, oa, rfl, hba, hxa⟩ := Xg3.out k y hy
            obtain ⟨bb, ob, rfl, hbb2, hyb⟩ := Xg4.out k (y ++ more) (by rw [List.getElem?_map, hy]; rfl)
            have f1 := hK.cell hxa trivial
            have f2 := hK.cell hyb trivial
            simp only [Nat.mul_one] at f1 f2
            have hszk := hK.size
            have hb1 : ba < wr.heap.size := by omega
            have hb2 : bb < wr.heap.size := by omega
            have hlt1 : (k : Int) < ((boundOf r.body)).length := by omega
            have hk0 : (0 : Int) ≤ k := by omega
            have hadd2 : ∀ w', (Op.stringOp .add y more).run Try.prog w' = .ok (.string (y ++ more)) w' := fun w' => by apply run_string_add_sum; exact Xhzn.out y (bound_names (List.mem_of_getElem? hy))
            have hne2 : ((y ++ more).toList == (y ++ more).toList) = true := str_same rfl
            clear hxa hyb hy
            have XhK := Lib.hid hK
            clear hK
            go_wp2_with fail
            go_quiet (fail)
            go_wp2_with fail
            go_roundw
            case rel => exact ⟨k + 1, by omega, by go_num, XhK.out.trans (Keep.drewN' _ _ _)⟩
            case measure => simp [intOf]; omega
          · obtain rfl : k = (boundOf r.body).length := by omega
            have kw11 : Keep (fun k => k < w.heap.size) w wr := Xkw10.out.trans (hK.mono fun _ _ _ => trivial)
            clear hK
            have Xkw11 := Lib.hid kw11
            clear kw11
            go_wp2_with fail
            refine (known_any _).mono ?_
            rintro e W12 ⟨rfl, k12⟩
            have kw12 : Keep (fun k => k < w.heap.size) w W12 := Xkw11.out.trans (k12.mono fun b _ h => by have := Xkw11.out.size; omega)
            clear k12
            have Xkw12 := Lib.hid kw12
            clear kw12
            go_wp2_with fail
            go_ret
            exact ⟨rfl, Xkw12.out⟩
end Go.Proofs
