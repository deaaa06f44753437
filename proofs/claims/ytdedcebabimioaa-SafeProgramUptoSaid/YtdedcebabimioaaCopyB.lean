/- inklingref09.CopyBody, CopyRule. -/
import Derived.Test.YtdedcebabimioaaProg
import Derived.Test.YtdedcebabimioaaCopy
namespace Go.Proofs
open Go.RowKit Go.Ink
set_option linter.unusedVariables false
set_option linter.unusedSimpArgs false
attribute [local go_sem] Oper.semAt_some

/-- the literal that stands behind a copied body -/
def markL : LitD := ⟨77, ⟨⟨#[]⟩, []⟩, ⟨false, ⟨#[]⟩⟩, ⟨false, ⟨#[]⟩⟩⟩
/-- a copied list of terms: the slice, and the whole row with its marks -/
def CopiedTerms (base : Nat) (w : World) (v : Value) (ts : List TermD) : Prop := ∃ g cap, v = .slice (some ⟨g, 0, none⟩) ts.length cap ∧ w.ownsRow base 35 2 (.slice (some ⟨g, 0, none⟩) (ts.length + 2) cap) (ts.length + 2) (termCells (ts ++ [markT, markT]))
theorem CopiedTerms.keep {base : Nat} {w w' : World} {v : Value} {ts : List TermD} {C : Nat → Prop} (h : CopiedTerms base w v ts) (hK : Keep C w w') (hC : ∀ b, v.ownBlock = some b → C b) : CopiedTerms base w' v ts := by
  obtain ⟨g, cap, rfl, h⟩ := h
  exact ⟨g, cap, rfl, own_kept h hK (fun b hb => hC b hb)⟩

set_option maxRecDepth 100000 in
set_option maxHeartbeats 1000000 in
theorem copyBody_any (n0 : Nat) (v : Value) (body : List LitD) (w : World) (hs : LitsIn n0 w v body) (hn : n0 ≤ w.heap.size) :
    Calls Try.prog 26 #[v] w fun e w' => ∃ g cap ps, e = .returned (.slice (some ⟨g, 0, none⟩) body.length cap) ∧ Keep (fun k => k < w.heap.size) w w' ∧
      w'.ownsRow w.heap.size 37 7 (.slice (some ⟨g, 0, none⟩) (body.length + 2) cap) (body.length + 2) ((ps ++ [(markL, Value.slice none 0 0), (markL, Value.slice none 0 0)]).flatMap fun p : LitD × Value => litCells p.1 p.2) ∧
      ps.map (·.1) = body ∧ ∀ p, p ∈ ps → CopiedTerms w.heap.size w' p.2 p.1.atom.args := by
  obtain ⟨a, cap, rfl, hlen, hcap, hel⟩ := id hs
  have Xhel := Lib.hid hel
  have Xhs := Lib.hid hs
  clear hel hs
  go_enter Try.func26, Try.ntmps26
  go_wp2_with fail
  go_loopw [3, 4] (fun v3 i wr => ∃ (k : Nat) (ps : List (LitD × Value)), k ≤ body.length ∧ i = .int .i64 k ∧ Keep (fun j => j < w.heap.size) w wr ∧ wr.ownsRow w.heap.size 37 7 v3 ps.length (ps.flatMap fun p => litCells p.1 p.2) ∧
     ps.map (·.1) = body.take k ∧ (∀ p, p ∈ ps → CopiedTerms w.heap.size wr p.2 p.1.atom.args ∧ v3.ownBlock ≠ p.2.ownBlock)) (fun _ i _ => body.length - (intOf i).toNat)
  case atStart => exact ⟨0, [], by omega, rfl, Keep.refl _ _, World.ownsRow_nil _ _ _ _, rfl, by simp⟩
  case round =>
    obtain ⟨k, ps, hk, rfl, hK, hO, hps, hpt⟩ := hrel
    have hws := hK.size
    have hpl : ps.length = k := by have := congrArg List.length hps; simp at this; omega
    by_cases hlt : k < body.length
    · obtain ⟨L, hL⟩ : ∃ L, body[k]? = some L := ⟨_, List.getElem?_eq_getElem hlt⟩
      obtain ⟨b, off, rfl, hb, sa, hcl, hts⟩ := Xhel.out k L hL
      have g : ∀ j v, (litCells L sa)[j]? = some v → wr.cell? ⟨b, off + k * 7 + j, none⟩ = some v := fun j v h => hK.cell (hcl j v h) (show b < w.heap.size by omega)
      have htsw := terms_keep (w' := wr.drew) hts ((hK.mono fun b _ h => by omega).trans (Keep.drew _ _))
      obtain ⟨aa, caps, rfl, hlens, hcaps, hels⟩ := id hts
      have d0 := g 0 _ rfl
      have d1 := g 1 _ rfl
      have d2 := g 2 _ rfl
      have d3 := g 3 _ rfl
      have d4 := g 4 _ rfl
      have d5 := g 5 _ rfl
      have d6 := g 6 _ rfl
      simp only [Nat.add_zero] at d0
      have hbw : b < wr.heap.size := by omega
      clear g hcl hels hts
      have XhK := Lib.hid hK
      have XhO := Lib.hid hO
      have Xhps := Lib.hid hps
      have Xhpt := Lib.hid hpt
      have Xhpl := Lib.hid hpl
      have XhL := Lib.hid hL
      have Xhtsw := Lib.hid htsw
      clear hK hO hps hpt hpl hL htsw
      go_wp2_with fail
      go_region_held3 (fun W => W.cell? ⟨b, off + k * 7, none⟩ = some (.int .i64 L.kind) ∧ W.cell? ⟨b, off + k * 7 + 1, none⟩ = some (.string L.atom.pred) ∧ W.cell? ⟨b, off + k * 7 + 2, none⟩ = some (.slice aa L.atom.args.length caps) ∧ W.cell? ⟨b, off + k * 7 + 3, none⟩ = some (.bool L.left.var) ∧ W.cell? ⟨b, off + k * 7 + 4, none⟩ = some (.string L.left.text) ∧ W.cell? ⟨b, off + k * 7 + 5, none⟩ = some (.bool L.right.var) ∧ W.cell? ⟨b, off + k * 7 + 6, none⟩ = some (.string L.right.text))
        (first | (refine ⟨?_, ?_, ?_, ?_, ?_, ?_, ?_⟩ <;> assumption) | go_keep)
        (first
          | (go_at_call 25; refine (copyAtom_any n0 _ _ L.atom.args _ Xhtsw.out (by simp; omega)).mono ?_; rintro e w1 ⟨g1, cap1, rfl, hk1, ho1⟩; have q0 := hk1.cell d0 (by simp; omega); have q1 := hk1.cell d1 (by simp; omega); have q2 := hk1.cell d2 (by simp; omega); have q3 := hk1.cell d3 (by simp; omega); have q4 := hk1.cell d4 (by simp; omega); have q5 := hk1.cell d5 (by simp; omega); have q6 := hk1.cell d6 (by simp; omega); have z1 := hk1.size; simp only [World.size_drew] at z1; clear d0 d1 d2 d3 d4 d5 d6)
          | (refine step_app1 (v := u3) el_lits rfl _ _ rfl rfl rfl (own_kept (own_kept (own_kept XhO.out (Keep.drew (fun _ => True) _) (fun _ _ => trivial)) hk1 (fun b hb => by have := (World.ownsRow.lt XhO.out b hb).2; simp; omega)) (Keep.alloc (fun _ => True) _ _) (fun _ _ => trivial)) (litCells L (.slice (some ⟨g1, 0, none⟩) L.atom.args.length cap1)) rfl (fun j u hj => by have := cells_of_block (new_block w1 (.cells (litCells L (.slice (some ⟨g1, 0, none⟩) L.atom.args.length cap1)).toArray 37)) j u (by simpa using hj); rw [Nat.zero_add] at this; exact this) (by simp [litCells, Value.oneCell']) (by have := Xhpl.out; omega) (by simp; omega) ?_; intro g2 cap2 w2 ho2 hk2 hg2 hl2; have nob : some b ≠ Value.ownBlock u3 := own_not XhO.out (by omega); have r0 := hk2.cell (old_cell q0 _) nob; have r1 := hk2.cell (old_cell q1 _) nob; have r2 := hk2.cell (old_cell q2 _) nob; have r3 := hk2.cell (old_cell q3 _) nob; have r4 := hk2.cell (old_cell q4 _) nob; have r5 := hk2.cell (old_cell q5 _) nob; have r6 := hk2.cell (old_cell q6 _) nob))
      have hu3 : ∀ b, Value.ownBlock u3 = some b → b < wr.heap.size := fun b hb => (World.ownsRow.lt XhO.out b hb).2
      have hg2' : Value.ownBlock u3 = some g2 ∨ w1.heap.size + 1 ≤ g2 := by simpa using hg2
      have hg1 : wr.heap.size ≤ g1 ∧ g1 < w1.heap.size := by have := World.ownsRow.lt ho1 g1 rfl; simpa using this
      have kA : Keep (fun j => j < wr.heap.size ∧ some j ≠ Value.ownBlock u3) wr w2 := (((Keep.drew _ _).trans (hk1.mono fun b _ h => by simpa using h.1)).trans (Keep.alloc _ _ _)).trans (hk2.mono fun b _ h => h.2)
      have kB : Keep (fun j => some j ≠ Value.ownBlock u3) w1 w2 := (Keep.alloc _ _ _).trans hk2
      have hfin : Keep (fun j => j < w.heap.size) w w2 := XhK.out.trans (kA.mono fun b _ h => ⟨by omega, own_not XhO.out h⟩)
      have hps2 : (ps ++ [(L, Value.slice (some ⟨g1, 0, none⟩) L.atom.args.length cap1)]).map (·.1) = body.take (k + 1) := by
        rw [List.map_append, Xhps.out, List.take_add_one, XhL.out]; rfl
      have ho3 : w2.ownsRow w.heap.size 37 7 (.slice (some ⟨g2, 0, none⟩) (ps.length + 1) cap2) (ps ++ [(L, Value.slice (some ⟨g1, 0, none⟩) L.atom.args.length cap1)]).length ((ps ++ [(L, Value.slice (some ⟨g1, 0, none⟩) L.atom.args.length cap1)]).flatMap fun p => litCells p.1 p.2) := by
        simpa using ho2
      have hpt2 : ∀ p, p ∈ ps ++ [(L, Value.slice (some ⟨g1, 0, none⟩) L.atom.args.length cap1)] → CopiedTerms w.heap.size w2 p.2 p.1.atom.args ∧ (Value.slice (some ⟨g2, 0, none⟩) (ps.length + 1) cap2).ownBlock ≠ p.2.ownBlock := fun p hp => by
        rcases List.mem_append.1 hp with h | h
        · obtain ⟨h1, h2⟩ := Xhpt.out p h
          obtain ⟨gp, cp, hv, hop⟩ := h1
          have hgp : gp < wr.heap.size := (World.ownsRow.lt hop gp rfl).2
          rw [hv] at h2
          refine ⟨⟨gp, cp, hv, own_kept hop kA (fun b hb => ?_)⟩, ?_⟩
          · simp only [Value.ownBlock, Option.some.injEq] at hb; subst hb
            exact ⟨hgp, fun e => h2 e.symm⟩
          · rw [hv]
            intro e
            have e' : g2 = gp := by simpa [Value.ownBlock] using e
            rcases hg2' with h3 | h3
            · exact h2 (by rw [h3, e']; rfl)
            · omega
        · simp only [List.mem_singleton] at h; subst h
          refine ⟨⟨g1, cap1, rfl, own_kept (ho1.mono (by simpa using hws)) kB (fun b hb => ?_)⟩, ?_⟩
          · simp only [Value.ownBlock, Option.some.injEq] at hb; subst hb
            intro e; have := hu3 _ e.symm; omega
          · simp only [Value.ownBlock, ne_eq, Option.some.injEq]
            intro e
            rcases hg2' with h3 | h3
            · have := hu3 _ h3; omega
            · omega
      clear hk1 ho1 hk2 ho2 hg2 hg2' hu3 kA kB q0 q1 q2 q3 q4 q5 q6 r0 r1 r2 r3 r4 r5 r6 nob
      have Xhfin := Lib.hid hfin
      have Xhps2 := Lib.hid hps2
      have Xho3 := Lib.hid ho3
      have Xhpt2 := Lib.hid hpt2
      clear hfin hps2 ho3 hpt2
      go_wp2
      go_roundw
      case rel => exact ⟨k + 1, ps ++ [(L, Value.slice (some ⟨g1, 0, none⟩) L.atom.args.length cap1)], by omega, by go_num, Xhfin.out, Xho3.out, Xhps2.out, Xhpt2.out⟩
      case measure => simp [intOf]; omega
    · obtain rfl : k = body.length := by omega
      rw [List.take_length] at hps
      have hO1 := own_kept hO (Keep.alloc (fun _ => True) wr (.cells (litCells markL (.slice none 0 0) ++ litCells markL (.slice none 0 0)).toArray 37)) (fun _ _ => trivial)
      obtain ⟨v2, W2, hr2, ho2, hk2, g2, cap2, hv2, hg2, hl2⟩ := app (P := Try.prog) el_lits 25 hO1 ⟨wr.heap.size, 0, none⟩ 2 2 (litCells markL (.slice none 0 0) ++ litCells markL (.slice none 0 0)) rfl
        (fun j u hj => by
          have := cells_of_block (new_block wr (.cells (litCells markL (.slice none 0 0) ++ litCells markL (.slice none 0 0)).toArray 37)) j u (by simpa using hj)
          simp only [Nat.zero_add] at this
          rw [show ((⟨wr.heap.size, 0, none⟩ : Addr).add j) = ⟨wr.heap.size, j, none⟩ from by unfold Addr.add; split <;> simp_all]
          exact this) (by simp [litCells, Value.oneCell']) (by omega) (by omega) (by simp; omega)
      subst hv2
      have hcap2 : (body.length : Int) ≤ cap2 := by
        rcases ho2.2 with ⟨h, _⟩ | ⟨g, c, cur, h, _, _, hnc, _⟩
        · cases h
        · cases h; omega
      have hfin : Keep (fun j => j < w.heap.size) w W2 := (hK.trans (Keep.alloc _ _ _)).trans (hk2.mono fun b _ h => own_not hO h)
      have ho3 : W2.ownsRow w.heap.size 37 7 (.slice (some ⟨g2, 0, none⟩) (body.length + 2) cap2) (body.length + 2) ((ps ++ [(markL, Value.slice none 0 0), (markL, Value.slice none 0 0)]).flatMap fun p : LitD × Value => litCells p.1 p.2) := by
        rw [hpl] at ho2
        simpa using ho2
      have hpt2 : ∀ p, p ∈ ps → CopiedTerms w.heap.size W2 p.2 p.1.atom.args := fun p hp => by
        obtain ⟨h1, h2⟩ := hpt p hp
        exact h1.keep ((Keep.alloc (fun b => some b ≠ Value.ownBlock u3) _ _).trans hk2) (fun b hb e => h2 (by rw [hb, ← e]))
      rw [hpl] at hr2
      simp only [litCells, List.cons_append, List.nil_append, markL] at hr2
      clear hK hO hpt hO1 ho2 hk2 hg2
      have Xhr2 := Lib.hid hr2
      have Xhfin := Lib.hid hfin
      have Xho3 := Lib.hid ho3
      have Xhpt2 := Lib.hid hpt2
      have Xhps := Lib.hid hps
      clear hr2 hfin ho3 hpt2 hps
      go_wp2_with (at_builtin; refine go_app rfl _ _ _ rfl rfl rfl Xhr2.out ?_)
      go_ret
      exact ⟨g2, cap2, ps, rfl, Xhfin.out, Xho3.out, Xhps.out, Xhpt2.out⟩

end Go.Proofs
