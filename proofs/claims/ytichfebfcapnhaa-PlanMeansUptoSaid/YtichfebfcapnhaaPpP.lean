/- Layer 16 (plan): the document's SameAtoms, SameRules; the law's same: of what is the same. -/
import Derived.Test.YtichfebfcapnhaaProg
import Derived.Test.YtichfebfcapnhaaPpGToPpH
import Derived.Test.YtichfebfcapnhaaPnY
import Derived.Deep.QuietTactic
import Derived.BigQuiet
import Derived.Laws.StructEq
namespace Go.Proofs
open Go.RowKit Go.Ink
set_option linter.unusedVariables false
set_option linter.unusedSimpArgs false
attribute [local go_sem] Oper.semAt_some

set_option maxRecDepth 100000 in
theorem sameAtoms_eq (n : Nat) (p : ByteArray) (va vb : Value) (ts : List TermD) (w : World) (ha : TermsIn n w va ts) (hb : TermsIn n w vb ts) (hn : n ≤ w.heap.size) :
    Calls Try.prog 48 #[.agg #[.string p, va], .agg #[.string p, vb]] w fun e w' => e = .returned (.bool true) ∧ Keep (fun b => b < w.heap.size) w w' := by
  obtain ⟨aa, ca, rfl, hla, hca, hea⟩ := id ha
  obtain ⟨ab, cb, rfl, hlb, hcb, heb⟩ := id hb
  have hpp : (p != p) = false := by simp
  have hll : ((ts.length : Int) != ts.length) = false := by simp
  obtain ⟨N, hN⟩ : ∃ N, w.heap.size = N := ⟨_, rfl⟩
  have hnN : n ≤ N := by omega
  have Xha := Lib.hid ha
  have Xhb := Lib.hid hb
  have Xhea := Lib.hid hea
  have Xheb := Lib.hid heb
  have XhN := Lib.hid hN
  clear ha hb hea heb hN
  go_enter Try.func48, Try.ntmps48
  go_upto_region 1 with fail
  refine wp_abs (fun W => Keep (fun b => b < w.heap.size) w W ∧ W.heap.size = w.heap.size + 1 + 1 ∧ W.heap[w.heap.size]? = some (.cells #[.string p, .slice aa ts.length ca] 25 (0, 0)) ∧ W.heap[w.heap.size + 1]? = some (.cells #[.string p, .slice ab ts.length cb] 25 (0, 0)))
    ⟨(Keep.alloc _ _ _).trans (Keep.alloc _ _ _), by simp, by simp only [alloc_get, World.size_alloc]; simp, by simp only [alloc_get, World.size_alloc]; simp⟩ ?_
  rintro W0 ⟨k0, z0, a1, a2⟩
  rw [XhN.out] at k0 z0 a1 a2 ⊢
  have c0 := cells_of_block a1 0 _ rfl
  have c1 := cells_of_block a1 1 _ rfl
  have e0 := cells_of_block a2 0 _ rfl
  have e1 := cells_of_block a2 1 _ rfl
  simp only [Nat.zero_add] at c0 c1 e0 e1
  have hNl : N < W0.heap.size := by omega
  have hNl1 : N + 1 < W0.heap.size := by omega
  have Xk0 := Lib.hid k0
  have Xa1 := Lib.hid a1
  have Xa2 := Lib.hid a2
  clear k0 a1 a2
  go_wp2_with fail
  go_loopw [5] (fun i wr => ∃ k : Nat, k ≤ ts.length ∧ i = .int .i64 (k : Int) ∧ Keep (fun _ => True) W0 wr) (fun i _ => ts.length - (intOf i).toNat)
  case atStart => exact ⟨0, by omega, rfl, Keep.refl _ _⟩
  case round =>
    obtain ⟨k, hk, rfl, hK⟩ := hrel
    have hs := hK.size
    have d1 := hK.cell c1 trivial
    have g1 := hK.cell e1 trivial
    have hNw : N < wr.heap.size := by omega
    have hNw1 : N + 1 < wr.heap.size := by omega
    clear c0 c1 e0 e1
    by_cases hlt : k < ts.length
    · obtain ⟨x, hx⟩ : ∃ x, ts[k]? = some x := ⟨_, List.getElem?_eq_getElem hlt⟩
      obtain ⟨ba, oa, rfl, hba, hxa⟩ := Xhea.out k x hx
      obtain ⟨bb, ob, rfl, hbb, hyb⟩ := Xheb.out k x hx
      have kw : Keep (fun b => b < N) w wr := Xk0.out.trans (hK.mono fun _ _ _ => trivial)
      have f1 := kw.cell hxa.1 (show ba < N by omega)
      have f2 := kw.cell hxa.2 (show ba < N by omega)
      have f3 := kw.cell hyb.1 (show bb < N by omega)
      have f4 := kw.cell hyb.2 (show bb < N by omega)
      have hb1 : ba < wr.heap.size := by omega
      have hb2 : bb < wr.heap.size := by omega
      have hlt1 : (k : Int) < ts.length := by omega
      have hk0 : (0 : Int) ≤ k := by omega
      clear hx hxa hyb
      have XhK := Lib.hid hK
      have Xkw := Lib.hid kw
      clear hK kw
      go_wp2_with fail
      go_quiet (fail)
      go_wp2_with fail
      go_roundw
      case rel => exact ⟨k + 1, by omega, by go_num, XhK.out.trans (Keep.drewN' _ _ _)⟩
      case measure => simp [intOf]; omega
    · obtain rfl : k = ts.length := by omega
      have hlt0 : ¬ (ts.length : Int) < ts.length := by omega
      have XhK := Lib.hid hK
      clear hK
      go_wp2_with fail
      go_ret
      exact ⟨rfl, (Xk0.out.trans (XhK.out.mono fun _ _ _ => trivial)).mono fun b _ h => by have := XhN.out; omega⟩

set_option maxRecDepth 100000 in
set_option maxHeartbeats 1000000 in
theorem sameRules_eq (n : Nat) (r : RuleD) (vh vb uh ub : Value) (w : World) (ha : RuleIn n w vh vb r) (hb : RuleIn n w uh ub r) (hn : n ≤ w.heap.size) :
    Calls Try.prog 17 #[ruleV r vh vb, ruleV r uh ub] w fun e w' => e = .returned (.bool true) ∧ Keep (fun b => b < w.heap.size) w w' := by
  have hat := fun (L : AtomD) sa ta W (hK : Keep (fun b => b < w.heap.size) w W) (h1 : TermsIn n w sa L.args) (h2 : TermsIn n w ta L.args) => sameAtoms_eq n L.pred sa ta L.args W (terms_keep h1 (hK.mono fun b _ h => by omega)) (terms_keep h2 (hK.mono fun b _ h => by omega)) (by have := hK.size; omega)
  obtain ⟨⟨pr, args⟩, body⟩ := r
  obtain ⟨h1, h2⟩ := ha
  obtain ⟨h3, h4⟩ := hb
  unfold ruleV
  simp only at h1 h2 h3 h4 ⊢
  have hhead := fun W hK => hat ⟨pr, args⟩ vh uh W hK h1 h3
  simp only at hhead
  obtain ⟨a1, c1, rfl, -, -, -⟩ := id h1
  obtain ⟨a2, c2, rfl, hlb, -, hea⟩ := id h2
  obtain ⟨a3, c3, rfl, -, -, -⟩ := id h3
  obtain ⟨a4, c4, rfl, -, -, heb⟩ := id h4
  have hll : ((body.length : Int) != body.length) = false := by simp
  obtain ⟨N, hN⟩ : ∃ N, w.heap.size = N := ⟨_, rfl⟩
  have hnN : n ≤ N := by omega
  clear h1 h2 h3 h4
  have Xhat := Lib.hid hat
  have Xhhead := Lib.hid hhead
  have Xhea := Lib.hid hea
  have Xheb := Lib.hid heb
  have XhN := Lib.hid hN
  clear hat hhead hea heb hN
  go_enter Try.func17, Try.ntmps17
  go_upto_region 1 with fail
  refine wp_abs (fun W => Keep (fun b => b < w.heap.size) w W ∧ W.heap.size = w.heap.size + 1 + 1 ∧ W.heap[w.heap.size]? = some (.cells #[.string pr, .slice a1 args.length c1, .slice a2 body.length c2] 28 (0, 0)) ∧ W.heap[w.heap.size + 1]? = some (.cells #[.string pr, .slice a3 args.length c3, .slice a4 body.length c4] 28 (0, 0)))
    ⟨(Keep.alloc _ _ _).trans (Keep.alloc _ _ _), by simp, by simp only [alloc_get, World.size_alloc]; simp, by simp only [alloc_get, World.size_alloc]; simp⟩ ?_
  rintro W0 ⟨k0, z0, b1, b2⟩
  have hh0 := Xhhead.out W0 k0
  rw [XhN.out] at k0 z0 b1 b2 ⊢
  have d0 := cells_of_block b1 0 _ rfl
  have d1 := cells_of_block b1 1 _ rfl
  have d2 := cells_of_block b1 2 _ rfl
  have e0 := cells_of_block b2 0 _ rfl
  have e1 := cells_of_block b2 1 _ rfl
  have e2 := cells_of_block b2 2 _ rfl
  simp only [Nat.zero_add] at d0 d1 d2 e0 e1 e2
  have hNl : N < W0.heap.size := by omega
  have hNl1 : N + 1 < W0.heap.size := by omega
  have Xk0 := Lib.hid k0
  have Xb1 := Lib.hid b1
  have Xb2 := Lib.hid b2
  have Xhh0 := Lib.hid hh0
  clear k0 b1 b2 hh0
  go_wp2_with fail
  refine Xhh0.out.mono ?_
  rintro e W1 ⟨rfl, q1⟩
  have hz1 := q1.size
  have x2 := q1.cell d2 hNl
  have y2 := q1.cell e2 hNl1
  have hN1 : N < W1.heap.size := by omega
  have hN11 : N + 1 < W1.heap.size := by omega
  have kw1 : Keep (fun b => b < N) w W1 := Xk0.out.trans (q1.mono fun b _ h => by omega)
  clear d0 d1 d2 e0 e1 e2 q1
  have Xkw1 := Lib.hid kw1
  clear kw1
  go_wp2_with fail
  go_loopw [5] (fun i wr => ∃ k : Nat, k ≤ body.length ∧ i = .int .i64 (k : Int) ∧ Keep (fun b => b < W1.heap.size) W1 wr) (fun i _ => body.length - (intOf i).toNat)
  case atStart => exact ⟨0, by omega, rfl, Keep.refl _ _⟩
  case round =>
    obtain ⟨k, hk, rfl, hK⟩ := hrel
    have hs := hK.size
    have d2 := hK.cell x2 hN1
    have e2 := hK.cell y2 hN11
    have hNw : N < wr.heap.size := by omega
    have hNw1 : N + 1 < wr.heap.size := by omega
    have kw : Keep (fun b => b < N) w wr := Xkw1.out.trans (hK.mono fun b _ h => by omega)
    clear x2 y2
    by_cases hlt : k < body.length
    · have hlt1 : (k : Int) < body.length := by omega
      have hk0 : (0 : Int) ≤ k := by omega
      obtain ⟨x, hx⟩ : ∃ x, body[k]? = some x := ⟨_, List.getElem?_eq_getElem hlt⟩
      obtain ⟨b4, o4, rfl, hb4, sa, hcl4, hsa⟩ := Xhea.out k x hx
      obtain ⟨b5, o5, rfl, hb5, ta, hcl5, hta⟩ := Xheb.out k x hx
      have hatx := fun W hK => Xhat.out x.atom sa ta W hK hsa hta
      obtain ⟨asa, csa, rfl, -, -, -⟩ := id hsa
      obtain ⟨ata, cta, rfl, -, -, -⟩ := id hta
      have g : ∀ j v, (litCells x (.slice asa x.atom.args.length csa))[j]? = some v → wr.cell? ⟨b4, o4 + k * 7 + j, none⟩ = some v := fun j v h => kw.cell (hcl4 j v h) (show b4 < N by omega)
      have g' : ∀ j v, (litCells x (.slice ata x.atom.args.length cta))[j]? = some v → wr.cell? ⟨b5, o5 + k * 7 + j, none⟩ = some v := fun j v h => kw.cell (hcl5 j v h) (show b5 < N by omega)
      have m0 := g 0 _ rfl
      have m1 := g 1 _ rfl
      have m2 := g 2 _ rfl
      have m3 := g 3 _ rfl
      have m4 := g 4 _ rfl
      have m5 := g 5 _ rfl
      have m6 := g 6 _ rfl
      have p0 := g' 0 _ rfl
      have p1 := g' 1 _ rfl
      have p2 := g' 2 _ rfl
      have p3 := g' 3 _ rfl
      have p4 := g' 4 _ rfl
      have p5 := g' 5 _ rfl
      have p6 := g' 6 _ rfl
      simp only [Nat.add_zero] at m0 p0
      have hb4w : b4 < wr.heap.size := by omega
      have hb5w : b5 < wr.heap.size := by omega
      clear g g' hcl4 hcl5 hsa hta hx
      have XhK := Lib.hid hK
      have Xkw := Lib.hid kw
      have Xhatx := Lib.hid hatx
      clear hK kw hatx
      go_wp2_with fail
      go_region
      · refine post_abs (fun W => Keep (fun b => b < wr.heap.size) wr W ∧ W.heap[wr.heap.size]? = some (.cells #[.int .i64 x.kind, .string x.atom.pred, .slice asa x.atom.args.length csa, .bool x.left.var, .string x.left.text, .bool x.right.var, .string x.right.text] 78 (0, 0)) ∧ W.heap[wr.heap.size + 1]? = some (.cells #[.int .i64 x.kind, .string x.atom.pred, .slice ata x.atom.args.length cta, .bool x.left.var, .string x.left.text, .bool x.right.var, .string x.right.text] 78 (0, 0)))
          ⟨((Keep.alloc _ _ _).trans (Keep.alloc _ _ _)).trans (Keep.drew _ _), (show ((wr.alloc _).alloc _).heap[_]? = _ from by simp only [alloc_get, World.size_alloc]; simp), (show ((wr.alloc _).alloc _).heap[_]? = _ from by simp only [alloc_get, World.size_alloc]; simp)⟩ ?_
        rintro W5 ⟨k5, bG, bH⟩
        obtain ⟨G, hG⟩ : ∃ G, wr.heap.size = G := ⟨_, rfl⟩
        obtain ⟨H, hH⟩ : ∃ G, wr.heap.size + 1 = G := ⟨_, rfl⟩
        rw [hH] at bH ⊢
        rw [hG] at bG ⊢
        have hz5 := k5.size
        have kw5 : Keep (fun b => b < N) w W5 := Xkw.out.trans (k5.mono fun b _ h => by omega)
        have g0 := cells_of_block bG 0 _ rfl
        have g1 := cells_of_block bG 1 _ rfl
        have g2 := cells_of_block bG 2 _ rfl
        have g3 := cells_of_block bG 3 _ rfl
        have g4 := cells_of_block bG 4 _ rfl
        have g5 := cells_of_block bG 5 _ rfl
        have g6 := cells_of_block bG 6 _ rfl
        have h0 := cells_of_block bH 0 _ rfl
        have h1 := cells_of_block bH 1 _ rfl
        have h2 := cells_of_block bH 2 _ rfl
        have h3 := cells_of_block bH 3 _ rfl
        have h4 := cells_of_block bH 4 _ rfl
        have h5 := cells_of_block bH 5 _ rfl
        have h6 := cells_of_block bH 6 _ rfl
        simp only [Nat.zero_add] at g0 g1 g2 g3 g4 g5 g6 h0 h1 h2 h3 h4 h5 h6
        have hGl := heap_lt bG
        have hHl := heap_lt bH
        have hkk : (x.kind != x.kind) = false := by simp
        have hat5 := Xhatx.out W5 (kw5.mono fun b _ h => by have := XhN.out; omega)
        have kr5 : Keep (fun b => b < W1.heap.size) W1 W5 := XhK.out.trans (k5.mono fun b _ h => by omega)
        clear m0 m1 m2 m3 m4 m5 m6 p0 p1 p2 p3 p4 p5 p6 k5
        have XhG := Lib.hid hG
        have XhH := Lib.hid hH
        have XbG := Lib.hid bG
        have XbH := Lib.hid bH
        have Xkw5 := Lib.hid kw5
        have Xhat5 := Lib.hid hat5
        have Xkr5 := Lib.hid kr5
        clear hG hH bG bH kw5 hat5 kr5
        go_wp2_with fail
        refine Xhat5.out.mono ?_
        rintro e W6 ⟨rfl, k6⟩
        have hz6 := k6.size
        have x3 := k6.cell g3 hGl
        have x4 := k6.cell g4 hGl
        have x5 := k6.cell g5 hGl
        have x6 := k6.cell g6 hGl
        have y3 := k6.cell h3 hHl
        have y4 := k6.cell h4 hHl
        have y5 := k6.cell h5 hHl
        have y6 := k6.cell h6 hHl
        have hGl6 : G < W6.heap.size := by omega
        have hHl6 : H < W6.heap.size := by omega
        have kr6 : Keep (fun b => b < W1.heap.size) W1 W6 := Xkr5.out.trans (k6.mono fun b _ h => by omega)
        clear g0 g1 g2 g3 g4 g5 g6 h0 h1 h2 h3 h4 h5 h6 k6
        have Xkr6 := Lib.hid kr6
        clear kr6
        go_wp2_with fail
        go_roundw
        case rel => exact ⟨k + 1, by omega, by go_num, Xkr6.out⟩
        case measure => simp [intOf]; omega
      · refine post_abs (fun W => Keep (fun b => b < wr.heap.size) wr W ∧ W.heap[wr.heap.size + 1]? = some (.cells #[.int .i64 x.kind, .string x.atom.pred, .slice asa x.atom.args.length csa, .bool x.left.var, .string x.left.text, .bool x.right.var, .string x.right.text] 78 (0, 0)) ∧ W.heap[wr.heap.size]? = some (.cells #[.int .i64 x.kind, .string x.atom.pred, .slice ata x.atom.args.length cta, .bool x.left.var, .string x.left.text, .bool x.right.var, .string x.right.text] 78 (0, 0)))
          ⟨((Keep.alloc _ _ _).trans (Keep.alloc _ _ _)).trans (Keep.drew _ _), (show ((wr.alloc _).alloc _).heap[_]? = _ from by simp only [alloc_get, World.size_alloc]; simp), (show ((wr.alloc _).alloc _).heap[_]? = _ from by simp only [alloc_get, World.size_alloc]; simp)⟩ ?_
        rintro W5 ⟨k5, bG, bH⟩
        obtain ⟨G, hG⟩ : ∃ G, wr.heap.size + 1 = G := ⟨_, rfl⟩
        obtain ⟨H, hH⟩ : ∃ G, wr.heap.size = G := ⟨_, rfl⟩
        rw [hG] at bG ⊢
        rw [hH] at bH ⊢
        have hz5 := k5.size
        have kw5 : Keep (fun b => b < N) w W5 := Xkw.out.trans (k5.mono fun b _ h => by omega)
        have g0 := cells_of_block bG 0 _ rfl
        have g1 := cells_of_block bG 1 _ rfl
        have g2 := cells_of_block bG 2 _ rfl
        have g3 := cells_of_block bG 3 _ rfl
        have g4 := cells_of_block bG 4 _ rfl
        have g5 := cells_of_block bG 5 _ rfl
        have g6 := cells_of_block bG 6 _ rfl
        have h0 := cells_of_block bH 0 _ rfl
        have h1 := cells_of_block bH 1 _ rfl
        have h2 := cells_of_block bH 2 _ rfl
        have h3 := cells_of_block bH 3 _ rfl
        have h4 := cells_of_block bH 4 _ rfl
        have h5 := cells_of_block bH 5 _ rfl
        have h6 := cells_of_block bH 6 _ rfl
        simp only [Nat.zero_add] at g0 g1 g2 g3 g4 g5 g6 h0 h1 h2 h3 h4 h5 h6
        have hGl := heap_lt bG
        have hHl := heap_lt bH
        have hkk : (x.kind != x.kind) = false := by simp
        have hat5 := Xhatx.out W5 (kw5.mono fun b _ h => by have := XhN.out; omega)
        have kr5 : Keep (fun b => b < W1.heap.size) W1 W5 := XhK.out.trans (k5.mono fun b _ h => by omega)
        clear m0 m1 m2 m3 m4 m5 m6 p0 p1 p2 p3 p4 p5 p6 k5
        have XhG := Lib.hid hG
        have XhH := Lib.hid hH
        have XbG := Lib.hid bG
        have XbH := Lib.hid bH
        have Xkw5 := Lib.hid kw5
        have Xhat5 := Lib.hid hat5
        have Xkr5 := Lib.hid kr5
        clear hG hH bG bH kw5 hat5 kr5
        go_wp2_with fail
        refine Xhat5.out.mono ?_
        rintro e W6 ⟨rfl, k6⟩
        have hz6 := k6.size
        have x3 := k6.cell g3 hGl
        have x4 := k6.cell g4 hGl
        have x5 := k6.cell g5 hGl
        have x6 := k6.cell g6 hGl
        have y3 := k6.cell h3 hHl
        have y4 := k6.cell h4 hHl
        have y5 := k6.cell h5 hHl
        have y6 := k6.cell h6 hHl
        have hGl6 : G < W6.heap.size := by omega
        have hHl6 : H < W6.heap.size := by omega
        have kr6 : Keep (fun b => b < W1.heap.size) W1 W6 := Xkr5.out.trans (k6.mono fun b _ h => by omega)
        clear g0 g1 g2 g3 g4 g5 g6 h0 h1 h2 h3 h4 h5 h6 k6
        have Xkr6 := Lib.hid kr6
        clear kr6
        go_wp2_with fail
        go_roundw
        case rel => exact ⟨k + 1, by omega, by go_num, Xkr6.out⟩
        case measure => simp [intOf]; omega
    · obtain rfl : k = body.length := by omega
      have hlt0 : ¬ (body.length : Int) < body.length := by omega
      have XhK := Lib.hid hK
      have Xkw := Lib.hid kw
      clear hK kw
      go_wp2_with fail
      go_ret
      exact ⟨rfl, Xkw.out.mono fun b _ h => by have := XhN.out; omega⟩

set_option maxRecDepth 100000 in
set_option maxHeartbeats 1000000 in
theorem lawSame_any (n : Nat) (p : PlanD) (vh vb vs uh ub us : Value) (w : World) (ha : PlanIn n w vh vb vs p) (hb : PlanIn n w uh ub us p) (hn : n ≤ w.heap.size) :
    Calls Try.prog 15 #[planV p vh vb vs, planV p uh ub us] w fun e w' => e = .returned (.bool true) ∧ Keep (fun b => b < w.heap.size) w w' := by
  have h1 := fun W (hK : Keep (fun b => b < w.heap.size) w W) => refSameSteps_any n vs us p.steps p.steps W (ha.2.keep (hK.mono fun b _ h => by omega)) (hb.2.keep (hK.mono fun b _ h => by omega)) (by have := hK.size; omega)
  have h2 := fun W (hK : Keep (fun b => b < w.heap.size) w W) => sameRules_eq n p.rule vh vb uh ub W (ha.1.keep (hK.mono fun b _ h => by omega)) (hb.1.keep (hK.mono fun b _ h => by omega)) (by have := hK.size; omega)
  rw [decide_eq_true (rfl : p.steps = p.steps)] at h1
  obtain ⟨⟨hh, hb1⟩, hs⟩ := id ha
  obtain ⟨⟨gh, gb⟩, gs⟩ := id hb
  obtain ⟨⟨⟨pr, args⟩, body⟩, ss⟩ := p
  unfold planV
  unfold ruleV at h2
  simp only at hh hb1 hs gh gb gs h1 h2 ⊢
  obtain ⟨a1, c1, rfl, -, -, -⟩ := id hh
  obtain ⟨a2, c2, rfl, -, -, -⟩ := id hb1
  obtain ⟨a3, c3, rfl, -, -, -⟩ := id hs
  obtain ⟨a4, c4, rfl, -, -, -⟩ := id gh
  obtain ⟨a5, c5, rfl, -, -, -⟩ := id gb
  obtain ⟨a6, c6, rfl, -, -, -⟩ := id gs
  clear hh hb1 hs gh gb gs ha hb
  obtain ⟨N, hN⟩ : ∃ N, w.heap.size = N := ⟨_, rfl⟩
  have Xh1 := Lib.hid h1
  have Xh2 := Lib.hid h2
  have XhN := Lib.hid hN
  clear h1 h2 hN
  go_enter Try.func15, Try.ntmps15
  go_upto_region 1 with fail
  refine wp_abs (fun W => Keep (fun b => b < w.heap.size) w W ∧ W.heap.size = w.heap.size + 1 + 1 ∧ W.heap[w.heap.size]? = some (.cells #[.string pr, .slice a1 args.length c1, .slice a2 body.length c2, .slice a3 ss.length c3] 34 (0, 0)) ∧ W.heap[w.heap.size + 1]? = some (.cells #[.string pr, .slice a4 args.length c4, .slice a5 body.length c5, .slice a6 ss.length c6] 34 (0, 0)))
    ⟨(Keep.alloc _ _ _).trans (Keep.alloc _ _ _), by simp, by simp only [alloc_get, World.size_alloc]; simp, by simp only [alloc_get, World.size_alloc]; simp⟩ ?_
  rintro W0 ⟨k0, z0, b1, b2⟩
  have g1 := Xh1.out W0 k0
  have back := fun W (hK : Keep (fun b => b < W0.heap.size) W0 W) => k0.trans (hK.mono fun b _ h => by omega)
  rw [XhN.out] at z0 b1 b2 ⊢
  have d0 := cells_of_block b1 0 _ rfl
  have d1 := cells_of_block b1 1 _ rfl
  have d2 := cells_of_block b1 2 _ rfl
  have d3 := cells_of_block b1 3 _ rfl
  have e0 := cells_of_block b2 0 _ rfl
  have e1 := cells_of_block b2 1 _ rfl
  have e2 := cells_of_block b2 2 _ rfl
  have e3 := cells_of_block b2 3 _ rfl
  simp only [Nat.zero_add] at d0 d1 d2 d3 e0 e1 e2 e3
  have hNl : N < W0.heap.size := by omega
  have hNl1 : N + 1 < W0.heap.size := by omega
  have Xk0 := Lib.hid k0
  have Xb1 := Lib.hid b1
  have Xb2 := Lib.hid b2
  have Xg1 := Lib.hid g1
  have Xback := Lib.hid back
  clear k0 b1 b2 g1 back
  go_wp2_with fail
  refine Xg1.out.mono ?_
  rintro e W1 ⟨rfl, q1⟩
  have hz1 := q1.size
  have x0 := q1.cell d0 trivial
  have x1 := q1.cell d1 trivial
  have x2 := q1.cell d2 trivial
  have y0 := q1.cell e0 trivial
  have y1 := q1.cell e1 trivial
  have y2 := q1.cell e2 trivial
  have hN1 : N < W1.heap.size := by omega
  have hN11 : N + 1 < W1.heap.size := by omega
  have kw1 := Xback.out W1 (q1.mono fun _ _ _ => trivial)
  have g2 := Xh2.out W1 kw1
  clear d0 d1 d2 d3 e0 e1 e2 e3 q1
  have Xkw1 := Lib.hid kw1
  have Xg2 := Lib.hid g2
  clear kw1 g2
  go_wp2_with fail
  refine Xg2.out.mono ?_
  rintro e W2 ⟨rfl, q2⟩
  go_wp2_with fail
  go_ret
  exact ⟨rfl, Xkw1.out.trans (q2.mono fun b _ h => by have := Xkw1.out.size; omega)⟩
end Go.Proofs
