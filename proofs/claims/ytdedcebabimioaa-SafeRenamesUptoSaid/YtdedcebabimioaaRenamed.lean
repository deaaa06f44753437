/- renamed: a rule with a text behind each variable's name. -/
import Derived.Test.YtdedcebabimioaaProg
import Derived.Test.YtdedcebabimioaaMapped
import Derived.Test.YtdedcebabimioaaCopyR
import Derived.Test.YtdedcebabimioaaHoistB
import Derived.Lib.SmallJoins
namespace Go.Proofs
open Go.RowKit Go.Ink
set_option linter.unusedVariables false
set_option linter.unusedSimpArgs false
attribute [local go_sem] Oper.semAt_some

def renL (more : ByteArray) (L : LitD) : LitD := ⟨L.kind, ⟨L.atom.pred, L.atom.args.map (mapT more)⟩, mapT more L.left, mapT more L.right⟩
def renR (more : ByteArray) (r : RuleD) : RuleD := ⟨⟨r.head.pred, r.head.args.map (mapT more)⟩, r.body.map (renL more)⟩

theorem own_terms {w : World} {base n : Nat} {e : TypeId} {v : Value} {ts : List TermD} (h : w.ownsRow base e 2 v n (termCells ts)) (hn : n = ts.length) (hb : ts.length ≤ 1073741824) : TermsIn w.heap.size w v ts :=
  own_slice h ts hn hb TermE fun b k t ht hc => by
    have hk : ∀ j, j < 2 → (termCells ts)[k * 2 + j]? = ([Value.bool t.var, .string t.text] : List Value)[j]? := fun j hj => flatMap_at _ 2 (fun _ => rfl) _ k j t ht hj
    exact ⟨by have := hc 0 (by omega); rw [hk 0 (by omega)] at this; exact this, by have := hc 1 (by omega); rw [hk 1 (by omega)] at this; exact this⟩

/-- two terms in a block of their own -/
theorem two_terms (w : World) (a b : TermD) (t : TypeId) : TermsIn (w.heap.size + 1) (w.alloc (.cells #[.bool a.var, .string a.text, .bool b.var, .string b.text] t)) (.slice (some ⟨w.heap.size, 0, none⟩) 2 2) [a, b] := by
  have hc := cells_of_block (new_block w (.cells #[.bool a.var, .string a.text, .bool b.var, .string b.text] t))
  refine ⟨_, 2, rfl, by simp, by simp [maxLen], fun k x hk => ⟨w.heap.size, 0, rfl, by omega, ?_⟩⟩
  match k, hk with
  | 0, hk => cases hk; exact ⟨hc 0 _ rfl, hc 1 _ rfl⟩
  | 1, hk => cases hk; exact ⟨hc 2 _ rfl, hc 3 _ rfl⟩

set_option maxRecDepth 100000 in
set_option maxHeartbeats 2000000 in
theorem renamed_any (r : RuleD) (sh sb : Value) (more : ByteArray) (w : World) (hr : RuleIn w.heap.size w sh sb r) (hz : ∀ L, L ∈ r.body → ∀ t, t ∈ L.left :: L.right :: L.atom.args → t.text.size + more.size ≤ 9223372036854775807)
    (hzh : ∀ t, t ∈ r.head.args → t.text.size + more.size ≤ 9223372036854775807) :
    Calls Try.prog 16 #[.agg #[.string r.head.pred, sh, sb], .string more] w fun e w' => ∃ vh vb, e = .returned (.agg #[.string r.head.pred, vh, vb]) ∧ Keep (fun k => k < w.heap.size) w w' ∧ RuleIn w'.heap.size w' vh vb (renR more r) := by
  obtain ⟨⟨ah, capH, rfl, hlenh, hcaph, helh⟩, ⟨ab, capB, rfl, hlenb, hcapb, helb⟩⟩ := id hr
  have Xhr := Lib.hid hr
  have Xhelh := Lib.hid helh
  have Xhelb := Lib.hid helb
  have Xhz := Lib.hid hz
  have Xhzh := Lib.hid hzh
  clear hr helh helb hz hzh
  go_enter Try.func16, Try.ntmps16
  go_wp2_with fail
  refine wp_abs (fun W0 => Keep (fun _ => True) w W0 ∧ W0.heap.size = w.heap.size + 1 + 1 ∧ W0.heap[w.heap.size]? = some (.cells #[.string r.head.pred, .slice ah r.head.args.length capH, .slice ab r.body.length capB] 27 (0, 0)) ∧
     W0.heap[w.heap.size + 1]? = some (.cells #[.string ⟨#[]⟩, .slice none 0 0, .slice none 0 0] 27 (0, 0)))
     ⟨(Keep.alloc _ _ _).trans (Keep.alloc _ _ _), by simp, old_block (new_block _ _) _, by simpa using new_block (w.alloc _) _⟩ ?_
  rintro W0 ⟨k0, s0, a1, a2⟩
  have hr0 := Xhr.out.keep (w' := W0) (k0.mono fun _ _ _ => trivial)
  have d0 := cells_of_block a1 0 _ rfl
  have d1 := cells_of_block a1 1 _ rfl
  simp only [Nat.zero_add, Nat.add_zero] at d0 d1
  have Xk0 := Lib.hid k0
  have Xa1 := Lib.hid a1
  have Xa2 := Lib.hid a2
  have Xhr0 := Lib.hid hr0
  clear k0 a1 a2 hr0
  refine region_hoist rfl (fun W => W.cell? ⟨w.heap.size, 0, none⟩ = some (.string r.head.pred) ∧ W.cell? ⟨w.heap.size, 1, none⟩ = some (.slice ah r.head.args.length capH)) [11] ?_
  have hS0 := And.intro d0 d1
  have XhS0 := Lib.hid hS0
  clear hS0
  refine hoist_take (i := 0) (v := ?_) rfl (by kernel_rfl) (by kernel_rfl) (by kernel_rfl) (by kernel_rfl) (fun _ _ _ h => h) XhS0.out (Or.inl ⟨by rfl, ?_⟩) ?_
  rotate_left
  · intro Wq hWq
    obtain ⟨x0, x1⟩ := hWq
    go_simp
    try with_reducible rfl
  try simp only [Act.put, List.setIfInBounds_toArray, List.set_cons_zero, List.set_cons_succ]
  refine hoist_take (i := 1) (v := ?_) rfl (by kernel_rfl) (by kernel_rfl) (by kernel_rfl) (by kernel_rfl) (fun _ _ _ h => h) XhS0.out (Or.inl ⟨by rfl, ?_⟩) ?_
  rotate_left
  · intro Wq hWq
    obtain ⟨x0, x1⟩ := hWq
    go_simp
    try with_reducible rfl
  try simp only [Act.put, List.setIfInBounds_toArray, List.set_cons_zero, List.set_cons_succ]
  refine hoist_take (i := 2) (v := ?_) rfl (by kernel_rfl) (by kernel_rfl) (by kernel_rfl) (by kernel_rfl) (fun _ _ _ h => h) XhS0.out (Or.inl ⟨by rfl, ?_⟩) ?_
  rotate_left
  · intro Wq hWq
    obtain ⟨x0, x1⟩ := hWq
    go_simp
    try with_reducible rfl
  try simp only [Act.put, List.setIfInBounds_toArray, List.set_cons_zero, List.set_cons_succ]
  refine hoist_take (i := 3) (v := ?_) rfl (by kernel_rfl) (by kernel_rfl) (by kernel_rfl) (by kernel_rfl) (fun _ _ _ h => h) XhS0.out (Or.inl ⟨by rfl, ?_⟩) ?_
  rotate_left
  · intro Wq hWq
    obtain ⟨x0, x1⟩ := hWq
    go_simp
    try with_reducible rfl
  try simp only [Act.put, List.setIfInBounds_toArray, List.set_cons_zero, List.set_cons_succ]
  refine hoist_take (i := 4) (v := ?_) rfl (by kernel_rfl) (by kernel_rfl) (by kernel_rfl) (by kernel_rfl) (fun _ _ _ h => h) XhS0.out (Or.inl ⟨by rfl, ?_⟩) ?_
  rotate_left
  · intro Wq hWq
    obtain ⟨x0, x1⟩ := hWq
    go_simp
    try with_reducible rfl
  try simp only [Act.put, List.setIfInBounds_toArray, List.set_cons_zero, List.set_cons_succ]
  refine hoist_take (i := 5) (v := ?_) rfl (by kernel_rfl) (by kernel_rfl) (by kernel_rfl) (by kernel_rfl) (fun _ _ _ h => h) XhS0.out (Or.inl ⟨by rfl, ?_⟩) ?_
  rotate_left
  · intro Wq hWq
    obtain ⟨x0, x1⟩ := hWq
    go_simp
    try with_reducible rfl
  try simp only [Act.put, List.setIfInBounds_toArray, List.set_cons_zero, List.set_cons_succ]
  refine hoist_take (i := 6) (v := ?_) rfl (by kernel_rfl) (by kernel_rfl) (by kernel_rfl) (by kernel_rfl) (fun _ _ _ h => h) XhS0.out (Or.inl ⟨by rfl, ?_⟩) ?_
  rotate_left
  · intro Wq hWq
    obtain ⟨x0, x1⟩ := hWq
    go_simp
    try with_reducible rfl
  try simp only [Act.put, List.setIfInBounds_toArray, List.set_cons_zero, List.set_cons_succ]
  clear d0 d1
  refine hoist_two (i := 7) (j := 10) rfl rfl (by kernel_rfl) (fun K hK => ?wayA) (fun K hK => ?wayB)
  case' wayA =>
    have XhK0 := Lib.hid hK
    clear hK
    go_wp2_with fail
    refine (mapped_any w.heap.size _ more r.head.args _ (terms_keep Xhr0.out.1 (Keep.drew _ _)) (by simp; omega) Xhzh.out).mono ?_
    rintro e w1 ⟨av, cv, rfl, hk1, ho1⟩
    have z1 := hk1.size
    simp only [World.size_drew] at z1
    have Xhk1 := Lib.hid hk1
    have Xho1 := Lib.hid ho1
    clear hk1 ho1
    go_wp2_with fail
    refine XhK0.out _ _ (fun _ => ?_) ?_
    · obtain ⟨x0, x1⟩ := XhS0.out
      exact ⟨Xhk1.out.cell x0 (by simp; omega), Xhk1.out.cell x1 (by simp; omega)⟩
    have hS1 : (fun W : World => W.cell? ⟨w.heap.size, 0, none⟩ = some (.string r.head.pred) ∧ W.cell? ⟨w.heap.size, 1, none⟩ = some (.slice ah r.head.args.length capH)) w1 := by
      obtain ⟨x0, x1⟩ := XhS0.out
      exact ⟨Xhk1.out.cell x0 (by simp; omega), Xhk1.out.cell x1 (by simp; omega)⟩
    have XhS1 := Lib.hid hS1
    clear hS1
    refine hoist_take (i := 8) (v := ?_) rfl (by kernel_rfl) (by kernel_rfl) (by kernel_rfl) (by kernel_rfl) (fun _ _ _ h => h) XhS1.out (Or.inl ⟨by rfl, ?_⟩) ?_
    rotate_left
    · intro Wq hWq
      obtain ⟨x0, x1⟩ := hWq
      go_simp
      try with_reducible rfl
    try simp only [Act.put, List.setIfInBounds_toArray, List.set_cons_zero, List.set_cons_succ]
    refine hoist_take (i := 9) (v := ?_) rfl (by kernel_rfl) (by kernel_rfl) (by kernel_rfl) (by kernel_rfl) (fun _ _ _ h => h) XhS1.out (Or.inl ⟨by rfl, ?_⟩) ?_
    rotate_left
    · intro Wq hWq
      obtain ⟨x0, x1⟩ := hWq
      go_simp
      try with_reducible rfl
    try simp only [Act.put, List.setIfInBounds_toArray, List.set_cons_zero, List.set_cons_succ]
    refine hoist_one (i := 10) rfl (by kernel_rfl) (fun K hK => ?_)
    have XhK1 := Lib.hid hK
    clear hK
    go_wp2_with fail
    refine XhK1.out _ _ (fun _ => ?_) ?_
    · obtain ⟨x0, x1⟩ := XhS1.out
      exact ⟨old_cell x0 _, old_cell x1 _⟩
    refine hoist_one (i := 11) rfl (by kernel_rfl) (fun K hK => ?_)
    have XhK2 := Lib.hid hK
    clear hK
    go_wp2_with fail
    refine XhK2.out _ _ (fun h => by simp at h) ?_
    refine hoist_done (by kernel_rfl) ?_
    obtain ⟨Bs, hBs⟩ : ∃ B, B = w1.heap.size := ⟨_, rfl⟩
    rw [← hBs]
    refine post_abs (fun W => Keep (fun k => k < w.heap.size + 1 + 1) W0 W ∧ W.heap[Bs]? = some (.cells #[.string r.head.pred, .slice av r.head.args.length cv, .slice none 0 0] 27 (0, 0)) ∧ w.heap.size + 1 < Bs ∧
        W.ownsRow W0.heap.size 35 2 (.slice av r.head.args.length cv) r.head.args.length (termCells (r.head.args.map (mapT more))) ∧ ∀ b, (Value.slice av r.head.args.length cv).ownBlock = some b → b ≠ Bs)
      ⟨((Keep.drew _ _).trans (Xhk1.out.mono fun b _ h => by simp; omega)).trans (Keep.alloc _ _ _), by rw [hBs]; exact new_block _ _, by omega, own_kept (by simpa using Xho1.out) (Keep.alloc (fun _ => True) _ _) (fun _ _ => trivial), fun b hb => by have := (World.ownsRow.lt Xho1.out b hb).2; omega⟩ ?_
    clear XhS0 XhS1 XhK0 XhK1 XhK2 Xhk1 Xho1 hBs z1
  case' wayB =>
    have XhK0 := Lib.hid hK
    clear hK
    go_wp2_with fail
    refine XhK0.out _ _ (fun _ => ?_) ?_
    · obtain ⟨x0, x1⟩ := XhS0.out
      exact ⟨old_cell x0 _, old_cell x1 _⟩
    refine hoist_one (i := 7) rfl (by kernel_rfl) (fun K hK => ?_)
    have XhK1 := Lib.hid hK
    clear hK
    go_wp2_with fail
    refine (mapped_any w.heap.size _ more r.head.args _ (terms_keep Xhr0.out.1 (by first | exact (Keep.drew _ _).trans (Keep.alloc _ _ _) | exact (Keep.alloc _ _ _).trans (Keep.drew _ _))) (by simp; omega) Xhzh.out).mono ?_
    rintro e w1 ⟨av, cv, rfl, hk1, ho1⟩
    have z1 := hk1.size
    simp only [World.size_drew, World.size_alloc] at z1
    have r2 := hk1.heap (k := W0.heap.size) (o := .cells #[.string ⟨#[]⟩, .slice none 0 0, .slice none 0 0] 27 (0, 0)) (by first | exact new_block W0 _ | exact new_block W0.drew _) (by simp)
    have Xhk1 := Lib.hid hk1
    have Xho1 := Lib.hid ho1
    have Xr2 := Lib.hid r2
    clear hk1 ho1 r2
    go_wp2_with fail
    refine XhK1.out _ _ (fun _ => ?_) ?_
    · obtain ⟨x0, x1⟩ := XhS0.out
      exact ⟨Xhk1.out.cell (old_cell x0 _) (by simp; omega), Xhk1.out.cell (old_cell x1 _) (by simp; omega)⟩
    have hS1 : (fun W : World => W.cell? ⟨w.heap.size, 0, none⟩ = some (.string r.head.pred) ∧ W.cell? ⟨w.heap.size, 1, none⟩ = some (.slice ah r.head.args.length capH)) w1 := by
      obtain ⟨x0, x1⟩ := XhS0.out
      exact ⟨Xhk1.out.cell (old_cell x0 _) (by simp; omega), Xhk1.out.cell (old_cell x1 _) (by simp; omega)⟩
    have XhS1 := Lib.hid hS1
    clear hS1
    refine hoist_take (i := 8) (v := ?_) rfl (by kernel_rfl) (by kernel_rfl) (by kernel_rfl) (by kernel_rfl) (fun _ _ _ h => h) XhS1.out (Or.inl ⟨by rfl, ?_⟩) ?_
    rotate_left
    · intro Wq hWq
      obtain ⟨x0, x1⟩ := hWq
      go_simp
      try with_reducible rfl
    try simp only [Act.put, List.setIfInBounds_toArray, List.set_cons_zero, List.set_cons_succ]
    refine hoist_take (i := 9) (v := ?_) rfl (by kernel_rfl) (by kernel_rfl) (by kernel_rfl) (by kernel_rfl) (fun _ _ _ h => h) XhS1.out (Or.inl ⟨by rfl, ?_⟩) ?_
    rotate_left
    · intro Wq hWq
      obtain ⟨x0, x1⟩ := hWq
      go_simp
      try with_reducible rfl
    try simp only [Act.put, List.setIfInBounds_toArray, List.set_cons_zero, List.set_cons_succ]
    refine hoist_one (i := 11) rfl (by kernel_rfl) (fun K hK => ?_)
    have XhK2 := Lib.hid hK
    clear hK
    have y0 := box_free Xr2.out 0
    have y1 := box_free Xr2.out 1
    have y2 := box_free Xr2.out 2
    have hwlt : W0.heap.size < w1.heap.size := by omega
    have x0 := cells_of_block Xr2.out 0 _ rfl
    have x1 := cells_of_block Xr2.out 1 _ rfl
    have x2 := cells_of_block Xr2.out 2 _ rfl
    simp only [Nat.zero_add, Nat.add_zero, s0] at x0 x1 x2 y0 y1 y2
    go_wp2_with fail
    refine XhK2.out _ _ (fun h => by simp at h) ?_
    refine hoist_done (by kernel_rfl) ?_
    obtain ⟨Bs, hBs⟩ : ∃ B, B = w.heap.size + 1 + 1 := ⟨_, rfl⟩
    rw [← hBs]
    have kf : ∀ u u' u'', Keep (fun b => b ≠ Bs) w1 (((w1.setCell ⟨Bs, 0, none⟩ u).setCell ⟨Bs, 1, none⟩ u').setCell ⟨Bs, 2, none⟩ u'') := fun u u' u'' => ((Keep.setCell _ _ _ (by simp)).trans (Keep.setCell _ _ _ (by simp))).trans (Keep.setCell _ _ _ (by simp))
    have r2' : w1.heap[Bs]? = some (.cells #[.string ⟨#[]⟩, .slice none 0 0, .slice none 0 0] 27 (0, 0)) := by rw [hBs, ← s0]; exact Xr2.out
    refine post_abs (fun W => Keep (fun k => k < w.heap.size + 1 + 1) W0 W ∧ W.heap[Bs]? = some (.cells #[.string r.head.pred, .slice av r.head.args.length cv, .slice none 0 0] 27 (0, 0)) ∧ w.heap.size + 1 < Bs ∧
        W.ownsRow W0.heap.size 35 2 (.slice av r.head.args.length cv) r.head.args.length (termCells (r.head.args.map (mapT more))) ∧ ∀ b, (Value.slice av r.head.args.length cv).ownBlock = some b → b ≠ Bs)
      ⟨?_, set_at 2 _ (set_at 1 _ (set_at 0 _ r2')), by omega, Joins.ownsRow_le (own_kept Xho1.out (kf _ _ _) (fun b hb => by have := (World.ownsRow.lt Xho1.out b hb).1; simp at this; omega)) (by simp), fun b hb => by have := (World.ownsRow.lt Xho1.out b hb).1; simp at this; omega⟩ ?_
    · refine Keep.trans ?_ ((kf _ _ _).mono fun b _ h => by omega)
      exact Keep.trans (by first | exact (Keep.drew _ _).trans (Keep.alloc _ _ _) | exact (Keep.alloc _ _ _).trans (Keep.drew _ _)) (Xhk1.out.mono fun b _ h => by simp; omega)
    clear XhS0 XhS1 XhK0 XhK1 XhK2 Xhk1 Xho1 Xr2 r2' kf x0 x1 x2 y0 y1 y2 hwlt hBs z1
  all_goals
    rintro W1 ⟨k1, b1, hBs, o1, n1⟩
    have hBlt := heap_lt b1
    have c0 := cells_of_block (k1.heap Xa1.out (show w.heap.size < w.heap.size + 1 + 1 by omega)) 2 _ rfl
    simp only [Nat.zero_add] at c0
    have Xk1 := Lib.hid k1
    have Xb1 := Lib.hid b1
    have Xo1 := Lib.hid o1
    have Xn1 := Lib.hid n1
    clear k1 b1 o1 n1
    go_wp2_with fail
    go_loopw [6] (fun i wr => ∃ (k : Nat) (ps : List (LitD × Value)) (vs : Value), k ≤ r.body.length ∧ i = .int .i64 k ∧ Keep (fun j => j < W1.heap.size ∧ j ≠ Bs) W1 wr ∧ wr.heap[Bs]? = some (.cells #[.string r.head.pred, .slice av r.head.args.length cv, vs] 27 (0, 0)) ∧
      wr.ownsRow W1.heap.size 37 7 vs ps.length (ps.flatMap fun p => litCells p.1 p.2) ∧ ps.map (·.1) = (r.body.take k).map (renL more) ∧ ∀ p, p ∈ ps → wr.ownsRow W1.heap.size 35 2 p.2 p.1.atom.args.length (termCells p.1.atom.args) ∧ ∀ b, p.2.ownBlock = some b → vs.ownBlock ≠ some b) (fun i _ => r.body.length - (intOf i).toNat)
    case atStart => exact ⟨0, [], .slice none 0 0, by omega, rfl, Keep.refl _ _, Xb1.out, World.ownsRow_nil _ _ _ _, rfl, by simp⟩
    case round =>
      obtain ⟨k, ps, vs, hk, rfl, hK, hsb, hO, hps, hpt⟩ := hrel
      have hws := hK.size
      have f0 := hK.cell c0 ⟨show w.heap.size < W1.heap.size by omega, show w.heap.size ≠ Bs by omega⟩
      have hpl : ps.length = k := by have := congrArg List.length hps; simpa [Nat.min_eq_left hk] using this
      have kWr : Keep (fun j => j < w.heap.size) w wr := ((Xk0.out.mono fun _ _ _ => trivial).trans (Xk1.out.mono fun b _ h => by omega)).trans (hK.mono fun b _ h => ⟨by omega, by omega⟩)
      by_cases hlt : k < r.body.length
      · obtain ⟨L, hL⟩ : ∃ L, r.body[k]? = some L := ⟨_, List.getElem?_eq_getElem hlt⟩
        obtain ⟨b, off, rfl, hb, sa, hcl, hts⟩ := Xhelb.out k L hL
        obtain ⟨aa, caps, rfl, hlens, hcaps, hels⟩ := id hts
        have g : ∀ j v, (litCells L (.slice aa L.atom.args.length caps))[j]? = some v → wr.cell? ⟨b, off + k * 7 + j, none⟩ = some v := fun j v h => kWr.cell (hcl j v h) hb
        have d0 := g 0 _ rfl
        have d1 := g 1 _ rfl
        have d2 := g 2 _ rfl
        have d3 := g 3 _ rfl
        have d4 := g 4 _ rfl
        have d5 := g 5 _ rfl
        have d6 := g 6 _ rfl
        simp only [Nat.add_zero] at d0
        have hbw : b < wr.heap.size := by omega
        have hzL := Xhz.out L (List.mem_of_getElem? hL)
        have hts2 := terms_keep hts kWr
        clear g hcl hels hts
        have XhK := Lib.hid hK
        have Xhsb := Lib.hid hsb
        have XhO := Lib.hid hO
        have Xhps := Lib.hid hps
        have Xhpt := Lib.hid hpt
        have XhL := Lib.hid hL
        have XkWr := Lib.hid kWr
        have XhzL := Lib.hid hzL
        have Xhts2 := Lib.hid hts2
        clear hK hsb hO hps hpt hL kWr hzL hts2
        go_wp2_with fail
        refine (mapped_any (wr.heap.size + 1 + 1) _ more [L.left, L.right] _ (by simpa [litCells] using two_terms (wr.alloc (.cells (litCells L (.slice aa L.atom.args.length caps)).toArray 37)) L.left L.right 35) (by simp) (fun t ht => XhzL.out t (by simp only [List.mem_cons, List.not_mem_nil, or_false] at ht; rcases ht with rfl | rfl <;> simp))).mono ?_
        rintro e w1 ⟨a8, c8, rfl, hk1, ho1⟩
        simp only [List.length_cons, List.length_nil, Nat.reduceAdd] at ho1 ⊢
        obtain ⟨g8, cap8, hv8⟩ := Joins.ownsRow_form ho1 (by omega)
        cases hv8
        have hz1 := hk1.size
        simp only [World.size_alloc] at hz1
        have x4 := own_elem ho1 0 _ rfl
        have x5 := own_elem ho1 1 _ rfl
        have x6 := own_elem ho1 2 _ rfl
        have x7 := own_elem ho1 3 _ rfl
        have hg8 := World.ownsRow.lt ho1 g8 rfl
        have hcap8 := (own_cap ho1).1
        simp only [World.size_alloc] at hg8
        have hA1 : Keep (fun j => j < wr.heap.size) wr w1 := ((Keep.alloc _ _ _).trans (Keep.alloc _ _ _)).trans (hk1.mono fun b _ h => by simp; omega)
        have nl := hk1.heap (old_block (new_block wr _) _) (show wr.heap.size < _ by simp; omega)
        have x0 := cells_of_block nl 0 _ rfl
        have x1 := cells_of_block nl 1 _ rfl
        have x2 := cells_of_block nl 2 _ rfl
        have hBw : Bs < wr.heap.size := by omega
        have hsb1 := hA1.heap Xhsb.out hBw
        have x3 := cells_of_block hsb1 2 _ rfl
        simp only [Nat.zero_add, Nat.add_zero] at x0 x1 x2 x3
        have hO1 := own_kept XhO.out hA1 (fun b hb => (World.ownsRow.lt XhO.out b hb).2)
        have hpt1 : ∀ p, p ∈ ps → w1.ownsRow W1.heap.size 35 2 p.2 p.1.atom.args.length (termCells p.1.atom.args) ∧ ∀ b, p.2.ownBlock = some b → vs.ownBlock ≠ some b := fun p hp => ⟨own_kept (Xhpt.out p hp).1 hA1 (fun b hb => (World.ownsRow.lt (Xhpt.out p hp).1 b hb).2), (Xhpt.out p hp).2⟩
        have hK1 : Keep (fun j => j < W1.heap.size ∧ j ≠ Bs) W1 w1 := XhK.out.trans (hA1.mono fun b _ h => by omega)
        have hts3 := terms_keep Xhts2.out (hA1.mono fun b _ h => by omega)
        have hvs := fun b hb => (World.ownsRow.lt XhO.out b hb)
        clear d0 d1 d2 d3 d4 d5 d6 f0
        have Xhk1 := Lib.hid hk1
        have Xho1 := Lib.hid ho1
        have XhA1 := Lib.hid hA1
        have Xnl := Lib.hid nl
        have Xhsb1 := Lib.hid hsb1
        have XhO1 := Lib.hid hO1
        have Xhpt1 := Lib.hid hpt1
        have XhK1 := Lib.hid hK1
        have Xhts3 := Lib.hid hts3
        have Xhvs := Lib.hid hvs
        clear hk1 ho1 hA1 nl hsb1 hO1 hpt1 hK1 hts3 hvs
        go_wp2_with fail
        refine region_hoist rfl (fun W => W.cell? ⟨wr.heap.size, 0, none⟩ = some (.int .i64 L.kind) ∧ W.cell? ⟨wr.heap.size, 1, none⟩ = some (.string L.atom.pred) ∧ W.cell? ⟨wr.heap.size, 2, none⟩ = some (.slice aa L.atom.args.length caps) ∧ W.cell? ⟨Bs, 2, none⟩ = some vs ∧ W.cell? ⟨g8, 0, none⟩ = some (.bool (mapT more L.left).var) ∧ W.cell? ⟨g8, 1, none⟩ = some (.string (mapT more L.left).text) ∧ W.cell? ⟨g8, 2, none⟩ = some (.bool (mapT more L.right).var) ∧ W.cell? ⟨g8, 3, none⟩ = some (.string (mapT more L.right).text)) [22, 23] ?_
        have hS0 := And.intro x0 (And.intro x1 (And.intro x2 (And.intro x3 (And.intro x4 (And.intro x5 (And.intro x6 x7))))))
        have XhS0 := Lib.hid hS0
        clear hS0
        refine hoist_take (i := 0) (v := ?_) rfl (by kernel_rfl) (by kernel_rfl) (by kernel_rfl) (by kernel_rfl) (fun _ _ _ h => h) XhS0.out (Or.inl ⟨by rfl, ?_⟩) ?_
        rotate_left
        · intro Wq hWq
          obtain ⟨x0, x1, x2, x3, x4, x5, x6, x7⟩ := hWq
          go_simp
          try with_reducible rfl
        try simp only [Act.put, List.setIfInBounds_toArray, List.set_cons_zero, List.set_cons_succ]
        refine hoist_take (i := 1) (v := ?_) rfl (by kernel_rfl) (by kernel_rfl) (by kernel_rfl) (by kernel_rfl) (fun _ _ _ h => h) XhS0.out (Or.inl ⟨by rfl, ?_⟩) ?_
        rotate_left
        · intro Wq hWq
          obtain ⟨x0, x1, x2, x3, x4, x5, x6, x7⟩ := hWq
          go_simp
          try with_reducible rfl
        try simp only [Act.put, List.setIfInBounds_toArray, List.set_cons_zero, List.set_cons_succ]
        refine hoist_take (i := 2) (v := ?_) rfl (by kernel_rfl) (by kernel_rfl) (by kernel_rfl) (by kernel_rfl) (fun _ _ _ h => h) XhS0.out (Or.inl ⟨by rfl, ?_⟩) ?_
        rotate_left
        · intro Wq hWq
          obtain ⟨x0, x1, x2, x3, x4, x5, x6, x7⟩ := hWq
          go_simp
          try with_reducible rfl
        try simp only [Act.put, List.setIfInBounds_toArray, List.set_cons_zero, List.set_cons_succ]
        refine hoist_take (i := 3) (v := ?_) rfl (by kernel_rfl) (by kernel_rfl) (by kernel_rfl) (by kernel_rfl) (fun _ _ _ h => h) XhS0.out (Or.inl ⟨by rfl, ?_⟩) ?_
        rotate_left
        · intro Wq hWq
          obtain ⟨x0, x1, x2, x3, x4, x5, x6, x7⟩ := hWq
          go_simp
          try with_reducible rfl
        try simp only [Act.put, List.setIfInBounds_toArray, List.set_cons_zero, List.set_cons_succ]
        refine hoist_take (i := 4) (v := ?_) rfl (by kernel_rfl) (by kernel_rfl) (by kernel_rfl) (by kernel_rfl) (fun _ _ _ h => h) XhS0.out (Or.inl ⟨by rfl, ?_⟩) ?_
        rotate_left
        · intro Wq hWq
          obtain ⟨x0, x1, x2, x3, x4, x5, x6, x7⟩ := hWq
          go_simp
          try with_reducible rfl
        try simp only [Act.put, List.setIfInBounds_toArray, List.set_cons_zero, List.set_cons_succ]
        refine hoist_take (i := 5) (v := ?_) rfl (by kernel_rfl) (by kernel_rfl) (by kernel_rfl) (by kernel_rfl) (fun _ _ _ h => h) XhS0.out (Or.inl ⟨by rfl, ?_⟩) ?_
        rotate_left
        · intro Wq hWq
          obtain ⟨x0, x1, x2, x3, x4, x5, x6, x7⟩ := hWq
          go_simp
          try with_reducible rfl
        try simp only [Act.put, List.setIfInBounds_toArray, List.set_cons_zero, List.set_cons_succ]
        refine hoist_take (i := 6) (v := ?_) rfl (by kernel_rfl) (by kernel_rfl) (by kernel_rfl) (by kernel_rfl) (fun _ _ _ h => h) XhS0.out (Or.inl ⟨by rfl, ?_⟩) ?_
        rotate_left
        · intro Wq hWq
          obtain ⟨x0, x1, x2, x3, x4, x5, x6, x7⟩ := hWq
          go_simp
          try with_reducible rfl
        try simp only [Act.put, List.setIfInBounds_toArray, List.set_cons_zero, List.set_cons_succ]
        refine hoist_take (i := 7) (v := ?_) rfl (by kernel_rfl) (by kernel_rfl) (by kernel_rfl) (by kernel_rfl) (fun _ _ _ h => h) XhS0.out (Or.inl ⟨by rfl, ?_⟩) ?_
        rotate_left
        · intro Wq hWq
          obtain ⟨x0, x1, x2, x3, x4, x5, x6, x7⟩ := hWq
          go_simp
          try with_reducible rfl
        try simp only [Act.put, List.setIfInBounds_toArray, List.set_cons_zero, List.set_cons_succ]
        refine hoist_take (i := 8) (v := ?_) rfl (by kernel_rfl) (by kernel_rfl) (by kernel_rfl) (by kernel_rfl) (fun _ _ _ h => h) XhS0.out (Or.inl ⟨by rfl, ?_⟩) ?_
        rotate_left
        · intro Wq hWq
          obtain ⟨x0, x1, x2, x3, x4, x5, x6, x7⟩ := hWq
          go_simp
          try with_reducible rfl
        try simp only [Act.put, List.setIfInBounds_toArray, List.set_cons_zero, List.set_cons_succ]
        refine hoist_take (i := 9) (v := ?_) rfl (by kernel_rfl) (by kernel_rfl) (by kernel_rfl) (by kernel_rfl) (fun _ _ _ h => h) XhS0.out (Or.inl ⟨by rfl, ?_⟩) ?_
        rotate_left
        · intro Wq hWq
          obtain ⟨x0, x1, x2, x3, x4, x5, x6, x7⟩ := hWq
          go_simp
          try with_reducible rfl
        try simp only [Act.put, List.setIfInBounds_toArray, List.set_cons_zero, List.set_cons_succ]
        refine hoist_take (i := 10) (v := ?_) rfl (by kernel_rfl) (by kernel_rfl) (by kernel_rfl) (by kernel_rfl) (fun _ _ _ h => h) XhS0.out (Or.inl ⟨by rfl, ?_⟩) ?_
        rotate_left
        · intro Wq hWq
          obtain ⟨x0, x1, x2, x3, x4, x5, x6, x7⟩ := hWq
          go_simp
          try with_reducible rfl
        try simp only [Act.put, List.setIfInBounds_toArray, List.set_cons_zero, List.set_cons_succ]
        refine hoist_take (i := 13) (v := ?_) rfl (by kernel_rfl) (by kernel_rfl) (by kernel_rfl) (by kernel_rfl) (fun _ _ _ h => h) XhS0.out (Or.inl ⟨by rfl, ?_⟩) ?_
        rotate_left
        · intro Wq hWq
          obtain ⟨x0, x1, x2, x3, x4, x5, x6, x7⟩ := hWq
          go_simp
          try with_reducible rfl
        try simp only [Act.put, List.setIfInBounds_toArray, List.set_cons_zero, List.set_cons_succ]
        refine hoist_take (i := 14) (v := ?_) rfl (by kernel_rfl) (by kernel_rfl) (by kernel_rfl) (by kernel_rfl) (fun _ _ _ h => h) XhS0.out (Or.inl ⟨by rfl, ?_⟩) ?_
        rotate_left
        · intro Wq hWq
          obtain ⟨x0, x1, x2, x3, x4, x5, x6, x7⟩ := hWq
          go_simp
          try with_reducible rfl
        try simp only [Act.put, List.setIfInBounds_toArray, List.set_cons_zero, List.set_cons_succ]
        refine hoist_take (i := 15) (v := ?_) rfl (by kernel_rfl) (by kernel_rfl) (by kernel_rfl) (by kernel_rfl) (fun _ _ _ h => h) XhS0.out (Or.inl ⟨by rfl, ?_⟩) ?_
        rotate_left
        · intro Wq hWq
          obtain ⟨x0, x1, x2, x3, x4, x5, x6, x7⟩ := hWq
          go_simp
          try with_reducible rfl
        try simp only [Act.put, List.setIfInBounds_toArray, List.set_cons_zero, List.set_cons_succ]
        refine hoist_take (i := 16) (v := ?_) rfl (by kernel_rfl) (by kernel_rfl) (by kernel_rfl) (by kernel_rfl) (fun _ _ _ h => h) XhS0.out (Or.inl ⟨by rfl, ?_⟩) ?_
        rotate_left
        · intro Wq hWq
          obtain ⟨x0, x1, x2, x3, x4, x5, x6, x7⟩ := hWq
          go_simp
          try with_reducible rfl
        try simp only [Act.put, List.setIfInBounds_toArray, List.set_cons_zero, List.set_cons_succ]
        refine hoist_take (i := 17) (v := ?_) rfl (by kernel_rfl) (by kernel_rfl) (by kernel_rfl) (by kernel_rfl) (fun _ _ _ h => h) XhS0.out (Or.inl ⟨by rfl, ?_⟩) ?_
        rotate_left
        · intro Wq hWq
          obtain ⟨x0, x1, x2, x3, x4, x5, x6, x7⟩ := hWq
          go_simp
          try with_reducible rfl
        try simp only [Act.put, List.setIfInBounds_toArray, List.set_cons_zero, List.set_cons_succ]
        refine hoist_take (i := 18) (v := ?_) rfl (by kernel_rfl) (by kernel_rfl) (by kernel_rfl) (by kernel_rfl) (fun _ _ _ h => h) XhS0.out (Or.inl ⟨by rfl, ?_⟩) ?_
        rotate_left
        · intro Wq hWq
          obtain ⟨x0, x1, x2, x3, x4, x5, x6, x7⟩ := hWq
          go_simp
          try with_reducible rfl
        try simp only [Act.put, List.setIfInBounds_toArray, List.set_cons_zero, List.set_cons_succ]
        refine hoist_one (i := 11) rfl (by kernel_rfl) (fun K hK => ?_)
        have XhH0 := Lib.hid hK
        clear hK x0 x1 x2 x3 x4 x5 x6 x7
        go_wp2_with fail
        refine (mapped_any w.heap.size _ more L.atom.args _ (terms_keep Xhts3.out (Keep.drew _ _)) (by simp; omega) (fun t ht => XhzL.out t (by simp [ht]))).mono ?_
        rintro e w2 ⟨a9, c9, rfl, hk2, ho2⟩
        have hz2 := hk2.size
        simp only [World.size_drew] at hz2
        have hS1 : (fun W => W.cell? ⟨wr.heap.size, 0, none⟩ = some (.int .i64 L.kind) ∧ W.cell? ⟨wr.heap.size, 1, none⟩ = some (.string L.atom.pred) ∧ W.cell? ⟨wr.heap.size, 2, none⟩ = some (.slice aa L.atom.args.length caps) ∧ W.cell? ⟨Bs, 2, none⟩ = some vs ∧ W.cell? ⟨g8, 0, none⟩ = some (.bool (mapT more L.left).var) ∧ W.cell? ⟨g8, 1, none⟩ = some (.string (mapT more L.left).text) ∧ W.cell? ⟨g8, 2, none⟩ = some (.bool (mapT more L.right).var) ∧ W.cell? ⟨g8, 3, none⟩ = some (.string (mapT more L.right).text)) w2 := by
          obtain ⟨x0, x1, x2, x3, x4, x5, x6, x7⟩ := XhS0.out
          exact ⟨hk2.cell x0 (show wr.heap.size < w1.drew.heap.size by simp; omega), hk2.cell x1 (show wr.heap.size < w1.drew.heap.size by simp; omega), hk2.cell x2 (show wr.heap.size < w1.drew.heap.size by simp; omega), hk2.cell x3 (show Bs < w1.drew.heap.size by simp; omega),
            hk2.cell x4 (show g8 < w1.drew.heap.size by simp; omega), hk2.cell x5 (show g8 < w1.drew.heap.size by simp; omega), hk2.cell x6 (show g8 < w1.drew.heap.size by simp; omega), hk2.cell x7 (show g8 < w1.drew.heap.size by simp; omega)⟩
        have XhS1 := Lib.hid hS1
        clear hS1
        have Xhk2 := Lib.hid hk2
        have Xho2 := Lib.hid ho2
        clear hk2 ho2
        go_wp2_with fail
        refine XhH0.out _ _ (fun _ => XhS1.out) ?_
        refine hoist_take (i := 12) (v := ?_) rfl (by kernel_rfl) (by kernel_rfl) (by kernel_rfl) (by kernel_rfl) (fun _ _ _ h => h) XhS1.out (Or.inl ⟨by rfl, ?_⟩) ?_
        rotate_left
        · intro Wq hWq
          obtain ⟨x0, x1, x2, x3, x4, x5, x6, x7⟩ := hWq
          go_simp
          try with_reducible rfl
        try simp only [Act.put, List.setIfInBounds_toArray, List.set_cons_zero, List.set_cons_succ]
        refine hoist_take (i := 19) (v := ?_) rfl (by kernel_rfl) (by kernel_rfl) (by kernel_rfl) (by kernel_rfl) (fun _ _ _ h => h) XhS1.out (Or.inl ⟨by rfl, ?_⟩) ?_
        rotate_left
        · intro Wq hWq
          obtain ⟨x0, x1, x2, x3, x4, x5, x6, x7⟩ := hWq
          go_simp
          try with_reducible rfl
        try simp only [Act.put, List.setIfInBounds_toArray, List.set_cons_zero, List.set_cons_succ]
        refine hoist_one (i := 20) rfl (by kernel_rfl) (fun K hK => ?_)
        have XhH1 := Lib.hid hK
        clear hK
        go_wp2_with fail
        refine XhH1.out _ _ (fun _ => ?_) ?_
        · obtain ⟨x0, x1, x2, x3, x4, x5, x6, x7⟩ := XhS1.out
          exact ⟨old_cell x0 _, old_cell x1 _, old_cell x2 _, old_cell x3 _, old_cell x4 _, old_cell x5 _, old_cell x6 _, old_cell x7 _⟩
        refine hoist_one (i := 21) rfl (by kernel_rfl) (fun K hK => ?_)
        have XhH2 := Lib.hid hK
        clear hK
        have hO2 := own_kept XhO1.out ((Keep.drew (fun j => j < w1.heap.size) w1).trans (Xhk2.out.mono fun b _ h => by simpa using h)) (fun b hb => (World.ownsRow.lt XhO1.out b hb).2)
        have hvs2 := XhO1.out
        have XhO2 := Lib.hid hO2
        have Xhvs2 := Lib.hid hvs2
        clear hO2 hvs2
        refine list_app1 (v := vs) el_lits rfl _ _ rfl rfl rfl (own_kept XhO2.out (Keep.alloc (fun _ => True) _ _) (fun _ _ => trivial)) (litCells (renL more L) (.slice a9 L.atom.args.length c9)) rfl
          (fun j u hj => by have := cells_of_block (new_block w2 (.cells (litCells (renL more L) (.slice a9 L.atom.args.length c9)).toArray 37)) j u (by simpa using hj); rw [Nat.zero_add] at this; exact this) (by simp [litCells, Value.oneCell']) (by omega) (by simp; omega) ?_
        intro g3 cap3 w3 ho3 hk3 hg3 hl3
        have nob : ∀ b, (b < W1.heap.size ∨ wr.heap.size ≤ b) → some b ≠ Value.ownBlock vs := fun b hb e => by have := Xhvs.out b e.symm; omega
        have y := hk3.heap (old_block (Xhk2.out.heap (show w1.drew.heap[Bs]? = _ from Xhsb1.out) (show Bs < _ by simp; omega)) _) (nob _ (by omega))
        have y2 := cells_of_block y 2 _ rfl
        have yf := box_free y 2
        simp only [Nat.zero_add] at y2
        have hz3 := hk3.size
        simp only [World.size_alloc] at hz3
        have hS2 : (fun W => W.cell? ⟨wr.heap.size, 0, none⟩ = some (.int .i64 L.kind) ∧ W.cell? ⟨wr.heap.size, 1, none⟩ = some (.string L.atom.pred) ∧ W.cell? ⟨wr.heap.size, 2, none⟩ = some (.slice aa L.atom.args.length caps) ∧ W.cell? ⟨Bs, 2, none⟩ = some vs ∧ W.cell? ⟨g8, 0, none⟩ = some (.bool (mapT more L.left).var) ∧ W.cell? ⟨g8, 1, none⟩ = some (.string (mapT more L.left).text) ∧ W.cell? ⟨g8, 2, none⟩ = some (.bool (mapT more L.right).var) ∧ W.cell? ⟨g8, 3, none⟩ = some (.string (mapT more L.right).text)) w3 := by
          obtain ⟨x0, x1, x2, x3, x4, x5, x6, x7⟩ := XhS1.out
          exact ⟨hk3.cell (old_cell x0 _) (show some wr.heap.size ≠ _ from nob _ (by omega)), hk3.cell (old_cell x1 _) (show some wr.heap.size ≠ _ from nob _ (by omega)), hk3.cell (old_cell x2 _) (show some wr.heap.size ≠ _ from nob _ (by omega)), hk3.cell (old_cell x3 _) (show some Bs ≠ _ from nob _ (by omega)), hk3.cell (old_cell x4 _) (show some g8 ≠ _ from nob _ (by omega)), hk3.cell (old_cell x5 _) (show some g8 ≠ _ from nob _ (by omega)), hk3.cell (old_cell x6 _) (show some g8 ≠ _ from nob _ (by omega)), hk3.cell (old_cell x7 _) (show some g8 ≠ _ from nob _ (by omega))⟩
        have XhS2 := Lib.hid hS2
        clear hS2
        simp only [World.size_alloc] at hg3
        have Xy := Lib.hid y
        have Xho3 := Lib.hid ho3
        have Xhk3 := Lib.hid hk3
        have Xhg3 := Lib.hid hg3
        have Xnob := Lib.hid nob
        clear y ho3 hk3 hg3 nob
        go_wp2_with fail
        refine XhH2.out _ _ (fun _ => XhS2.out) ?_
        refine hoist_one (i := 22) rfl (by kernel_rfl) (fun K hK => ?_)
        have XhH3 := Lib.hid hK
        clear hK
        go_wp2_with fail
        refine XhH3.out _ _ (fun h => by simp at h) ?_
        refine hoist_one (i := 23) rfl (by kernel_rfl) (fun K hK => ?_)
        have XhH4 := Lib.hid hK
        clear hK
        go_wp2_with fail
        refine XhH4.out _ _ (fun h => by simp at h) ?_
        refine hoist_done (by kernel_rfl) ?_
        have kq : ∀ u, Keep (fun b => b ≠ Bs) w3 (w3.setCell ⟨Bs, 2, none⟩ u) := fun u => Keep.setCell _ _ _ (by simp)
        have kA : Keep (fun b => b < w1.heap.size) w1 w2 := (Keep.drew _ w1).trans (Xhk2.out.mono fun b _ h => by simpa using h)
        have kB : Keep (fun b => some b ≠ vs.ownBlock) w2 w3 := (Keep.alloc _ _ _).trans Xhk3.out
        refine post_abs (fun W => ∃ (qs : List (LitD × Value)) (us : Value), Keep (fun j => j < W1.heap.size ∧ j ≠ Bs) W1 W ∧ W.heap[Bs]? = some (.cells #[.string r.head.pred, .slice av r.head.args.length cv, us] 27 (0, 0)) ∧
          W.ownsRow W1.heap.size 37 7 us qs.length (qs.flatMap fun p => litCells p.1 p.2) ∧ qs.map (·.1) = (r.body.take (k + 1)).map (renL more) ∧ ∀ p, p ∈ qs → W.ownsRow W1.heap.size 35 2 p.2 p.1.atom.args.length (termCells p.1.atom.args) ∧ ∀ b, p.2.ownBlock = some b → us.ownBlock ≠ some b)
          ⟨ps ++ [(renL more L, .slice a9 L.atom.args.length c9)], _, ?_, set_at 2 _ Xy.out, own_kept (by simpa [hpl] using Xho3.out) (kq _) (fun b hb => ?_), ?_, ?_⟩ ?_
        · exact XhK1.out.trans ((kA.mono fun b _ h => by omega).trans ((kB.mono fun b _ h => Xnob.out b (.inl h.1)).trans ((kq _).mono fun b _ h => h.2)))
        · have := (own_cap Xho3.out).2.2.2
          simp only [Value.ownBlock, Option.some.injEq] at hb
          omega
        · rw [List.map_append, Xhps.out, List.take_add_one, XhL.out]; simp
        · intro p hp
          rcases List.mem_append.1 hp with h | h
          · obtain ⟨h1, h2⟩ := Xhpt1.out p h
            refine ⟨own_kept (own_kept (own_kept h1 kA (fun b hb => (World.ownsRow.lt h1 b hb).2)) kB (fun b hb e => h2 b hb e.symm)) (kq _) (fun b hb => by have := (World.ownsRow.lt h1 b hb).1; omega), fun b hb e => ?_⟩
            have e' : g3 = b := by simpa [Value.ownBlock] using e
            have hb2 := (World.ownsRow.lt h1 b hb).2
            rcases Xhg3.out with h3 | h3
            · exact h2 b hb (by rw [h3, e'])
            · omega
          · simp only [List.mem_singleton] at h
            subst h
            have hl9 := fun b hb => (World.ownsRow.lt Xho2.out b hb)
            simp only [World.size_drew] at hl9
            refine ⟨own_kept (own_kept (Joins.ownsRow_le (base' := W1.heap.size) (by simpa [renL] using Xho2.out) (show W1.heap.size ≤ w1.heap.size by omega)) kB (fun b hb => Xnob.out b (.inr (by have := (hl9 b hb).1; omega)))) (kq _) (fun b hb => by have := (hl9 b hb).1; omega), fun b hb e => ?_⟩
            have e' : g3 = b := by simpa [Value.ownBlock] using e
            have hb2 := hl9 b hb
            rcases Xhg3.out with h3 | h3
            · have := Xhvs.out g3 h3; omega
            · omega
        clear XhS0 XhS1 XhS2 XhH0 XhH1 XhH2 XhH3 XhH4 Xy Xho3 Xhk3 Xhg3 Xnob kq kA kB
        rintro W5 ⟨ps5, vs5, K5, sb5, O5, hps5, hpt5⟩
        have XK5 := Lib.hid K5
        have Xsb5 := Lib.hid sb5
        have XO5 := Lib.hid O5
        have Xhps5 := Lib.hid hps5
        have Xhpt5 := Lib.hid hpt5
        clear K5 sb5 O5 hps5 hpt5
        go_wp2_with fail
        go_roundw
        case rel => exact ⟨k + 1, ps5, vs5, by omega, by go_num, XK5.out, Xsb5.out, XO5.out, Xhps5.out, Xhpt5.out⟩
        case measure => simp [intOf]; omega
      · obtain rfl : k = r.body.length := by omega
        rw [List.take_length] at hps
        rw [hpl] at hO
        obtain ⟨a5, c5, rfl⟩ := own_form hO
        have c1 := cells_of_block hsb 0 _ rfl
        have c2 := cells_of_block hsb 1 _ rfl
        have c3 := cells_of_block hsb 2 _ rfl
        have r4 := hK.heap (Xk1.out.heap Xa2.out (show w.heap.size + 1 < w.heap.size + 1 + 1 by omega)) ⟨by omega, by omega⟩
        have y0 := box_free r4 0
        have y1 := box_free r4 1
        have y2 := box_free r4 2
        have z0 := cells_of_block r4 0 _ rfl
        have z1 := cells_of_block r4 1 _ rfl
        have z2 := cells_of_block r4 2 _ rfl
        have hltw : w.heap.size + 1 < wr.heap.size := by omega
        simp only [Nat.zero_add, Nat.add_zero] at c1 c2 c3 z0 z1 z2
        have kf : ∀ u u' u'', Keep (fun b => b ≠ w.heap.size + 1) wr (((wr.setCell ⟨w.heap.size + 1, 0, none⟩ u).setCell ⟨w.heap.size + 1, 1, none⟩ u').setCell ⟨w.heap.size + 1, 2, none⟩ u'') := fun u u' u'' => ((Keep.setCell _ _ _ (by simp)).trans (Keep.setCell _ _ _ (by simp))).trans (Keep.setCell _ _ _ (by simp))
        obtain ⟨W9, hW9⟩ : ∃ W9, ((wr.setCell ⟨w.heap.size + 1, 0, none⟩ (.string r.head.pred)).setCell ⟨w.heap.size + 1, 1, none⟩ (.slice av r.head.args.length cv)).setCell ⟨w.heap.size + 1, 2, none⟩ (.slice a5 r.body.length c5) = W9 := ⟨_, rfl⟩
        have kf9 := kf (.string r.head.pred) (.slice av r.head.args.length cv) (.slice a5 r.body.length c5)
        rw [hW9] at kf9
        have q : W9.heap[w.heap.size + 1]? = some (.cells #[.string r.head.pred, .slice av r.head.args.length cv, .slice a5 r.body.length c5] 27 (0, 0)) := by rw [← hW9]; exact set_at 2 _ (set_at 1 _ (set_at 0 _ r4))
        have q0 := cells_of_block q 0 _ rfl
        have q1 := cells_of_block q 1 _ rfl
        have q2 := cells_of_block q 2 _ rfl
        simp only [Nat.zero_add, Nat.add_zero] at q0 q1 q2
        have hargs : ∀ L, L ∈ r.body → L.atom.args.length ≤ 1073741824 := fun L hL => by
          obtain ⟨j, hj⟩ := List.getElem?_of_mem hL
          obtain ⟨_, _, _, _, _, _, hts⟩ := Xhelb.out j L hj
          obtain ⟨_, _, _, h, _⟩ := hts
          exact h
        have hone : RuleIn W9.heap.size W9 (.slice av r.head.args.length cv) (.slice a5 r.body.length c5) (renR more r) := by
          refine ⟨own_terms (own_kept (own_kept Xo1.out hK (fun b hb => ⟨(World.ownsRow.lt Xo1.out b hb).2, Xn1.out b hb⟩)) kf9 (fun b hb => by have := (World.ownsRow.lt Xo1.out b hb).1; omega)) (by simp [renR]) (by simp [renR]; omega), ?_⟩
          have h := own_lits (n0 := W9.heap.size) (own_kept hO kf9 (fun b hb => by have := (World.ownsRow.lt hO b hb).1; omega)) (by omega) (Nat.le_refl _) (fun p hp => own_terms (own_kept (hpt p hp).1 kf9 (fun b hb => by have := (World.ownsRow.lt (hpt p hp).1 b hb).1; omega)) rfl (by
            have hm : p.1 ∈ r.body.map (renL more) := by rw [← hps]; exact List.mem_map.2 ⟨p, hp, rfl⟩
            obtain ⟨L, hL, hLe⟩ := List.mem_map.1 hm
            rw [← hLe]
            simpa [renL] using hargs L hL))
          rw [hps] at h
          exact h
        have hk9 : Keep (fun b => b < w.heap.size) w W9 := kWr.trans (kf9.mono fun b _ h => by omega)
        clear hargs r4 kf q
        have XhK := Lib.hid hK
        have Xhsb := Lib.hid hsb
        have XhO := Lib.hid hO
        have Xhps := Lib.hid hps
        have Xhpt := Lib.hid hpt
        have XkWr := Lib.hid kWr
        have Xkf9 := Lib.hid kf9
        have Xhone := Lib.hid hone
        have Xhk9 := Lib.hid hk9
        clear hK hsb hO hps hpt kWr kf9 hone hk9
        go_wp2
        exact bodyPost_ret (v := .agg #[.string r.head.pred, .slice av r.head.args.length cv, .slice a5 r.body.length c5]) (by simp [results, Try.results16, go_sem, q0, q1, q2]) rfl
          ⟨_, _, rfl, Xhk9.out, Xhone.out⟩
end Go.Proofs
