/- inklingref09.CopyRule. -/
import Derived.Test.YtdedcebabimioaaProg
import Derived.Test.YtdedcebabimioaaCopyB
namespace Go.Proofs
open Go.RowKit Go.Ink
set_option linter.unusedVariables false
set_option linter.unusedSimpArgs false
attribute [local go_sem] Oper.semAt_some

def CopiedBody (base : Nat) (w : World) (v : Value) (body : List LitD) : Prop := ∃ g cap, ∃ ps : List (LitD × Value), v = .slice (some ⟨g, 0, none⟩) body.length cap ∧
  w.ownsRow base 37 7 (.slice (some ⟨g, 0, none⟩) (body.length + 2) cap) (body.length + 2) ((ps ++ [(markL, Value.slice none 0 0), (markL, Value.slice none 0 0)]).flatMap fun p : LitD × Value => litCells p.1 p.2) ∧
  ps.map (·.1) = body ∧ ∀ p, p ∈ ps → CopiedTerms base w p.2 p.1.atom.args
theorem CopiedBody.keep {base : Nat} {w w' : World} {v : Value} {body : List LitD} {C : Nat → Prop} (h : CopiedBody base w v body) (hK : Keep C w w') (hC : ∀ b, base ≤ b → b < w.heap.size → C b) : CopiedBody base w' v body := by
  obtain ⟨g, cap, ps, rfl, h1, h2, h3⟩ := h
  refine ⟨g, cap, ps, rfl, own_kept h1 hK (fun b hb => ?_), h2, fun p hp => ?_⟩
  · have := World.ownsRow.lt h1 b hb; exact hC b this.1 this.2
  · obtain ⟨g', c', hv, ho⟩ := h3 p hp
    refine ⟨g', c', hv, own_kept ho hK (fun b hb => ?_)⟩
    have := World.ownsRow.lt ho b hb; exact hC b this.1 this.2
theorem CopiedTerms.keep2 {base : Nat} {w w' : World} {v : Value} {ts : List TermD} {C : Nat → Prop} (h : CopiedTerms base w v ts) (hK : Keep C w w') (hC : ∀ b, base ≤ b → b < w.heap.size → C b) : CopiedTerms base w' v ts := by
  obtain ⟨g, cap, rfl, h⟩ := h
  exact ⟨g, cap, rfl, own_kept h hK (fun b hb => by have := World.ownsRow.lt h b hb; exact hC b this.1 this.2)⟩
theorem CopiedTerms.mono {base base' : Nat} {w : World} {v : Value} {ts : List TermD} (h : CopiedTerms base w v ts) (hb : base' ≤ base) : CopiedTerms base' w v ts := by
  obtain ⟨g, cap, rfl, h⟩ := h
  exact ⟨g, cap, rfl, h.mono hb⟩
theorem CopiedBody.mono {base base' : Nat} {w : World} {v : Value} {body : List LitD} (h : CopiedBody base w v body) (hb : base' ≤ base) : CopiedBody base' w v body := by
  obtain ⟨g, cap, ps, rfl, h1, h2, h3⟩ := h
  exact ⟨g, cap, ps, rfl, h1.mono hb, h2, fun p hp => (h3 p hp).mono hb⟩

/-- what a row holds, by elements -/
theorem own_elem {w : World} {base : Nat} {e : TypeId} {sz g n cap : Nat} {xs : List Value} (h : w.ownsRow base e sz (.slice (some ⟨g, 0, none⟩) n cap) n xs) (j : Nat) (u : Value) (hu : xs[j]? = some u) : w.cell? ⟨g, j, none⟩ = some u := by
  have := h.cells (g := g) rfl j u hu
  rwa [show ((⟨g, 0, none⟩ : Addr).add j) = ⟨g, j, none⟩ from by unfold Addr.add; split <;> simp_all] at this
theorem own_cap {w : World} {base : Nat} {e : TypeId} {sz g n cap : Nat} {xs : List Value} (h : w.ownsRow base e sz (.slice (some ⟨g, 0, none⟩) n cap) n xs) : n ≤ cap ∧ cap ≤ maxLen ∧ g < w.heap.size ∧ base ≤ g := by
  rcases h.2 with ⟨h, _⟩ | ⟨g', c, cur, h, hb, hg, hnc, hc, _⟩
  · cases h
  · cases h; exact ⟨hnc, hc, heap_lt hg, hb⟩

theorem CopiedTerms.terms {base : Nat} {w : World} {v : Value} {ts : List TermD} (h : CopiedTerms base w v ts) (hl : ts.length ≤ 1073741824) : TermsIn w.heap.size w v ts := by
  obtain ⟨g, cap, rfl, h⟩ := h
  have hc := own_cap h
  refine ⟨_, cap, rfl, hl, ⟨by omega, hc.2.1⟩, fun k t ht => ⟨g, 0, rfl, hc.2.2.1, ?_⟩⟩
  have hlt := (List.getElem?_eq_some_iff.1 ht).1
  have hk : ∀ j, j < 2 → (termCells (ts ++ [markT, markT]))[k * 2 + j]? = ([Value.bool t.var, .string t.text] : List Value)[j]? := fun j hj => by
    refine flatMap_at _ 2 (fun _ => rfl) _ k j t ?_ hj
    rw [List.getElem?_append_left hlt]; exact ht
  rw [Nat.zero_add]
  exact ⟨own_elem h _ _ (hk 0 (by omega)), own_elem h _ _ (hk 1 (by omega))⟩
theorem CopiedBody.lits {base : Nat} {w : World} {v : Value} {body : List LitD} (h : CopiedBody base w v body) (hl : body.length ≤ 1073741824) (hla : ∀ L, L ∈ body → L.atom.args.length ≤ 1073741824) : LitsIn w.heap.size w v body := by
  obtain ⟨g, cap, ps, rfl, h1, h2, h3⟩ := h
  have hc := own_cap h1
  refine ⟨_, cap, rfl, hl, ⟨by omega, hc.2.1⟩, fun k L hL => ⟨g, 0, rfl, hc.2.2.1, ?_⟩⟩
  rw [← h2, List.getElem?_map] at hL
  obtain ⟨p, hp, rfl⟩ := Option.map_eq_some_iff.1 hL
  have hlt := (List.getElem?_eq_some_iff.1 hp).1
  rw [Nat.zero_add]
  refine ⟨p.2, fun j u hj => own_elem h1 _ _ ?_, (h3 p (List.mem_of_getElem? hp)).terms (hla _ (by rw [← h2]; exact List.mem_map.2 ⟨p, List.mem_of_getElem? hp, rfl⟩))⟩
  have hj7 : j < 7 := (List.getElem?_eq_some_iff.1 hj).1
  rw [flatMap_at (fun p : LitD × Value => litCells p.1 p.2) 7 (fun _ => rfl) _ k j p (by rw [List.getElem?_append_left hlt]; exact hp) hj7]
  exact hj

set_option maxRecDepth 100000 in
set_option maxHeartbeats 1000000 in
theorem copyRule_any (n0 : Nat) (r : RuleD) (sh sb : Value) (w : World) (hr : RuleIn n0 w sh sb r) (hn : n0 ≤ w.heap.size) :
    Calls Try.prog 9 #[.agg #[.string r.head.pred, sh, sb]] w fun e w' => ∃ vh vb, e = .returned (.agg #[.string r.head.pred, vh, vb]) ∧ Keep (fun k => k < w.heap.size) w w' ∧
      CopiedTerms w.heap.size w' vh r.head.args ∧ CopiedBody w.heap.size w' vb r.body := by
  obtain ⟨⟨ah, capH, rfl, hlenh, hcaph, helh⟩, ⟨ab, capB, rfl, hlenb, hcapb, helb⟩⟩ := id hr
  have Xhr := Lib.hid hr
  have Xhelh := Lib.hid helh
  have Xhelb := Lib.hid helb
  clear hr helh helb
  go_enter Try.func9, Try.ntmps9
  go_wp2_with fail
  refine wp_abs (fun W0 => Keep (fun _ => True) w W0 ∧ W0.heap.size = w.heap.size + 1 + 1 ∧ W0.heap[w.heap.size]? = some (.cells #[.string r.head.pred, .slice ah r.head.args.length capH, .slice ab r.body.length capB] 27 (0, 0)) ∧
     W0.heap[w.heap.size + 1]? = some (.cells #[.string ⟨#[]⟩, .slice none 0 0, .slice none 0 0] 27 (0, 0)))
     ⟨(Keep.alloc _ _ _).trans (Keep.alloc _ _ _), by simp, old_block (new_block _ _) _, by simpa using new_block (w.alloc _) _⟩ ?_
  rintro W0 ⟨k0, s0, a1, a2⟩
  have hr0 := Xhr.out.keep (w' := W0.drew) ((k0.mono fun _ _ _ => trivial).trans (Keep.drew _ _))
  have d0 := cells_of_block a1 0 _ rfl
  have d1 := cells_of_block a1 1 _ rfl
  have d2 := cells_of_block a1 2 _ rfl
  simp only [Nat.zero_add, Nat.add_zero] at d0 d1 d2
  have Xk0 := Lib.hid k0
  have Xa1 := Lib.hid a1
  have Xa2 := Lib.hid a2
  have Xhr0 := Lib.hid hr0
  clear k0 a1 a2 hr0
  go_region_held3 (fun W => W.cell? ⟨w.heap.size, 0, none⟩ = some (.string r.head.pred) ∧ W.cell? ⟨w.heap.size, 1, none⟩ = some (.slice ah r.head.args.length capH) ∧ W.cell? ⟨w.heap.size, 2, none⟩ = some (.slice ab r.body.length capB))
    (first | (refine ⟨?_, ?_, ?_⟩ <;> assumption) | go_keep)
    (first
      | (go_at_call 25; refine (copyAtom_any n0 _ _ r.head.args _ Xhr0.out.1 (by simp; omega)).mono ?_; rintro e w1 ⟨g1, cap1, rfl, hk1, ho1⟩; have q0 := hk1.cell d0 (by simp; omega); have q1 := hk1.cell d1 (by simp; omega); have q2 := hk1.cell d2 (by simp; omega); have z1 := hk1.size; simp only [World.size_drew] at z1; clear d0 d1 d2)
      | (go_at_call 26; refine (copyBody_any n0 _ r.body _ (lits_keep Xhr0.out.2 (hk1.mono fun b _ h => by simp; omega)) (by omega)).mono ?_; rintro e w2 ⟨g2, cap2, ps, rfl, hk2, ho2, hps, hpt⟩; have p0 := hk2.cell q0 (by simp; omega); have p1 := hk2.cell q1 (by simp; omega); have p2 := hk2.cell q2 (by simp; omega); have z2 := hk2.size;
          have r2 := hk2.heap (hk1.heap (show W0.drew.heap[w.heap.size + 1]? = _ from Xa2.out) (by simp; omega)) (by omega); have x0 := cells_of_block r2 0 _ rfl; have x1 := cells_of_block r2 1 _ rfl; have x2 := cells_of_block r2 2 _ rfl; have y0 := box_free r2 0; have y1 := box_free r2 1; have y2 := box_free r2 2; simp only [Nat.zero_add, Nat.add_zero] at x0 x1 x2; have Xr2 := Lib.hid r2; have Xhps := Lib.hid hps; have Xhpt := Lib.hid hpt; clear r2 q0 q1 q2 hps hpt))
  have q : (((w2.setCell ⟨w.heap.size + 1, 0, none⟩ (.string r.head.pred)).setCell ⟨w.heap.size + 1, 1, none⟩ (.slice (some ⟨g1, 0, none⟩) r.head.args.length cap1)).setCell ⟨w.heap.size + 1, 2, none⟩ (.slice (some ⟨g2, 0, none⟩) r.body.length cap2)).heap[w.heap.size + 1]? =
      some (.cells #[.string r.head.pred, .slice (some ⟨g1, 0, none⟩) r.head.args.length cap1, .slice (some ⟨g2, 0, none⟩) r.body.length cap2] 27 (0, 0)) := set_at 2 _ (set_at 1 _ (set_at 0 _ Xr2.out))
  have q0 := cells_of_block q 0 _ rfl
  have q1 := cells_of_block q 1 _ rfl
  have q2 := cells_of_block q 2 _ rfl
  simp only [Nat.zero_add, Nat.add_zero] at q0 q1 q2
  have kf : ∀ u u' u'', Keep (fun b => b ≠ w.heap.size + 1) w2 (((w2.setCell ⟨w.heap.size + 1, 0, none⟩ u).setCell ⟨w.heap.size + 1, 1, none⟩ u').setCell ⟨w.heap.size + 1, 2, none⟩ u'') := fun u u' u'' => ((Keep.setCell _ _ _ (by simp)).trans (Keep.setCell _ _ _ (by simp))).trans (Keep.setCell _ _ _ (by simp))
  have ct : CopiedTerms W0.heap.size w1 (.slice (some ⟨g1, 0, none⟩) r.head.args.length cap1) r.head.args := ⟨g1, cap1, rfl, by simpa using ho1⟩
  have ct2 := ct.keep2 hk2 (fun b h1 h2 => h2)
  have cb : CopiedBody w1.heap.size w2 (.slice (some ⟨g2, 0, none⟩) r.body.length cap2) r.body := ⟨g2, cap2, ps, rfl, ho2, Xhps.out, Xhpt.out⟩
  have kw : Keep (fun b => b < w.heap.size) w w2 := ((Xk0.out.mono fun _ _ _ => trivial).trans (Keep.drew _ _)).trans ((hk1.mono fun b _ h => by simp; omega).trans (hk2.mono fun b _ h => by omega))
  clear p0 p1 p2 x0 x1 x2 y0 y1 y2 hk1 ho1 hk2 ho2
  have Xct := Lib.hid ct
  have Xct2 := Lib.hid ct2
  have Xcb := Lib.hid cb
  have Xkw := Lib.hid kw
  have Xq := Lib.hid q
  have Xkf := Lib.hid kf
  clear ct ct2 cb kw q kf
  go_wp2
  refine bodyPost_ret (v := .agg #[.string r.head.pred, .slice (some ⟨g1, 0, none⟩) r.head.args.length cap1, .slice (some ⟨g2, 0, none⟩) r.body.length cap2]) (by simp [results, Try.results9, go_sem, q0, q1, q2]) rfl
    ⟨_, _, rfl, Xkw.out.trans ((Xkf.out _ _ _).mono fun b _ h => by omega), (Xct2.out.keep2 (Xkf.out _ _ _) (fun b h1 h2 => by omega)).mono (by omega), (Xcb.out.keep (Xkf.out _ _ _) (fun b h1 h2 => by omega)).mono (by omega)⟩

end Go.Proofs
