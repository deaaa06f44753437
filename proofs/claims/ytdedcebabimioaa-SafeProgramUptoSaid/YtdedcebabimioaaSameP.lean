/- inklingref09.SameProgram where both are the same; KeptProgram of a copy. -/
import Derived.Test.YtdedcebabimioaaProg
import Derived.Test.YtdedcebabimioaaProgs
import Derived.Test.YtdedcebabimioaaSame
import Derived.Test.YtdedcebabimioaaKept
namespace Go.Proofs
open Go.RowKit Go.Ink
set_option linter.unusedVariables false
set_option linter.unusedSimpArgs false
attribute [local go_sem] Oper.semAt_some

/-- a program's three lists in memory -/
structure ProgIn (n : Nat) (w : World) (vi vo vr : Value) (p : ProgD) : Prop where
  i : InpsIn n w vi p.ins
  o : OutsIn n w vo p.outs
  r : RulesIn n w vr p.rules
theorem ProgIn.keep {n : Nat} {w w' : World} {vi vo vr : Value} {p : ProgD} (h : ProgIn n w vi vo vr p) {m : Nat} (hK : Keep (fun k => k < m) w w') (hm : n ≤ m) : ProgIn n w' vi vo vr p :=
  ⟨h.i.mono fun b o x hb h => CellsE.keep (n := n) h hb (hK.mono fun b _ hb => by omega), h.o.mono fun b o x hb h => CellsE.keep (n := n) h hb (hK.mono fun b _ hb => by omega), rules_keep h.r (hK.mono fun b _ hb => by omega)⟩
theorem ProgIn.wider {n n' : Nat} {w : World} {vi vo vr : Value} {p : ProgD} (h : ProgIn n w vi vo vr p) (hn : n ≤ n') : ProgIn n' w vi vo vr p :=
  ⟨SliceIn.wider h.i hn fun _ _ _ _ h => h, SliceIn.wider h.o hn fun _ _ _ _ h => h, SliceIn.wider h.r hn fun _ _ _ _ ⟨sh, sb, h1, h2⟩ => ⟨sh, sb, h1, h2.wider hn⟩⟩

set_option maxRecDepth 100000 in
set_option maxHeartbeats 2000000 in
theorem sameProgram_any (n : Nat) (p : ProgD) (vi vo vr vi' vo' vr' : Value) (w : World) (ha : ProgIn n w vi vo vr p) (hb : ProgIn n w vi' vo' vr' p) (hn : n ≤ w.heap.size) :
    Calls Try.prog 30 #[.agg #[vi, vo, vr], .agg #[vi', vo', vr']] w fun e w' => e = .returned (.bool true) ∧ Keep (fun b => b < w.heap.size) w w' := by
  obtain ⟨ai, ci, rfl, hli, hci, hei⟩ := id ha.i
  obtain ⟨ao, co, rfl, hlo, hco, heo⟩ := id ha.o
  obtain ⟨ar, cr, rfl, hlr, hcr, her⟩ := id ha.r
  obtain ⟨ai', ci', rfl, hli', hci', hei'⟩ := id hb.i
  obtain ⟨ao', co', rfl, hlo', hco', heo'⟩ := id hb.o
  obtain ⟨ar', cr', rfl, hlr', hcr', her'⟩ := id hb.r
  have Xha := Lib.hid ha
  have Xhb := Lib.hid hb
  have Xhei := Lib.hid hei
  have Xheo := Lib.hid heo
  have Xher := Lib.hid her
  have Xhei' := Lib.hid hei'
  have Xheo' := Lib.hid heo'
  have Xher' := Lib.hid her'
  clear ha hb hei heo her hei' heo' her'
  go_enter Try.func30, Try.ntmps30
  go_wp2_with fail
  refine wp_abs (fun W => Keep (fun k => k < w.heap.size) w W ∧ W.heap.size = w.heap.size + 1 + 1 ∧ W.heap[w.heap.size]? = some (.cells #[.slice ai p.ins.length ci, .slice ao p.outs.length co, .slice ar p.rules.length cr] 45 (0, 0)) ∧
     W.heap[w.heap.size + 1]? = some (.cells #[.slice ai' p.ins.length ci', .slice ao' p.outs.length co', .slice ar' p.rules.length cr'] 45 (0, 0)))
     ⟨(Keep.alloc _ _ _).trans (Keep.alloc _ _ _), by simp, by simp only [alloc_get, World.size_alloc]; simp, by simp only [alloc_get, World.size_alloc]; simp⟩ ?_
  rintro W0 ⟨k0, s0, n1, n2⟩
  have Xk0 := Lib.hid k0
  have Xn1 := Lib.hid n1
  have Xn2 := Lib.hid n2
  clear k0 n1 n2
  go_loopw [5] (fun i wr => ∃ k : Nat, k ≤ p.ins.length ∧ i = .int .i64 k ∧ Keep (fun b => b < w.heap.size + 1 + 1) W0 wr) (fun i _ => p.ins.length - (intOf i).toNat)
  case atStart => exact ⟨0, by omega, rfl, Keep.refl _ _⟩
  case round =>
    obtain ⟨k, hk, rfl, hK⟩ := hrel
    have hs := hK.size
    have b1 := hK.heap Xn1.out (by omega)
    have b2 := hK.heap Xn2.out (by omega)
    have c0 := cells_of_block b1 0 _ rfl
    have c1 := cells_of_block b1 1 _ rfl
    have c2 := cells_of_block b1 2 _ rfl
    have e0 := cells_of_block b2 0 _ rfl
    have e1 := cells_of_block b2 1 _ rfl
    have e2 := cells_of_block b2 2 _ rfl
    simp only [Nat.zero_add] at c0 c1 c2 e0 e1 e2
    have hbs : w.heap.size + 1 < wr.heap.size := by omega
    by_cases hlt : k < p.ins.length
    · obtain ⟨x, hx⟩ : ∃ x, p.ins[k]? = some x := ⟨_, List.getElem?_eq_getElem hlt⟩
      obtain ⟨ba, oa, rfl, hba, hxa⟩ := Xhei.out k x hx
      obtain ⟨bb, ob, rfl, hbb, hyb⟩ := Xhei'.out k x hx
      have f0 := hK.cell (Xk0.out.cell (hxa 0 _ rfl) (show ba < w.heap.size by omega)) (show ba < w.heap.size + 1 + 1 by omega)
      have g0 := hK.cell (Xk0.out.cell (hyb 0 _ rfl) (show bb < w.heap.size by omega)) (show bb < w.heap.size + 1 + 1 by omega)
      have f1 := hK.cell (Xk0.out.cell (hxa 1 _ rfl) (show ba < w.heap.size by omega)) (show ba < w.heap.size + 1 + 1 by omega)
      have g1 := hK.cell (Xk0.out.cell (hyb 1 _ rfl) (show bb < w.heap.size by omega)) (show bb < w.heap.size + 1 + 1 by omega)
      have f2 := hK.cell (Xk0.out.cell (hxa 2 _ rfl) (show ba < w.heap.size by omega)) (show ba < w.heap.size + 1 + 1 by omega)
      have g2 := hK.cell (Xk0.out.cell (hyb 2 _ rfl) (show bb < w.heap.size by omega)) (show bb < w.heap.size + 1 + 1 by omega)
      simp only [Nat.add_zero] at f0 g0
      have hb1 : ba < wr.heap.size := by omega
      have hb2 : bb < wr.heap.size := by omega
      have hlt1 : (k : Int) < p.ins.length := by omega
      have hk0 : (0 : Int) ≤ k := by omega
      clear hx hxa hyb b1 b2
      have XhK := Lib.hid hK
      clear hK
      go_wp2_with fail
      go_quiet (fail)
      go_wp2_with fail
      go_roundw
      case rel => exact ⟨k + 1, by omega, by go_num, XhK.out.trans (Keep.drewN' _ _ _)⟩
      case measure => simp [intOf]; omega
    · obtain rfl : k = p.ins.length := by omega
      clear b1 b2
      have XhK := Lib.hid hK
      clear hK
      go_wp2_with fail
      clear c0 c1 c2 e0 e1 e2
      go_loopw [6] (fun i wr => ∃ k : Nat, k ≤ p.outs.length ∧ i = .int .i64 k ∧ Keep (fun b => b < w.heap.size + 1 + 1) W0 wr) (fun i _ => p.outs.length - (intOf i).toNat)
      case atStart => exact ⟨0, by omega, rfl, XhK.out⟩
      case round =>
        obtain ⟨k, hk, rfl, hK⟩ := hrel
        have hs := hK.size
        have b1 := hK.heap Xn1.out (by omega)
        have b2 := hK.heap Xn2.out (by omega)
        have c0 := cells_of_block b1 0 _ rfl
        have c1 := cells_of_block b1 1 _ rfl
        have c2 := cells_of_block b1 2 _ rfl
        have e0 := cells_of_block b2 0 _ rfl
        have e1 := cells_of_block b2 1 _ rfl
        have e2 := cells_of_block b2 2 _ rfl
        simp only [Nat.zero_add] at c0 c1 c2 e0 e1 e2
        have hbs : w.heap.size + 1 < wr.heap.size := by omega
        by_cases hlt : k < p.outs.length
        · obtain ⟨x, hx⟩ : ∃ x, p.outs[k]? = some x := ⟨_, List.getElem?_eq_getElem hlt⟩
          obtain ⟨ba, oa, rfl, hba, hxa⟩ := Xheo.out k x hx
          obtain ⟨bb, ob, rfl, hbb, hyb⟩ := Xheo'.out k x hx
          have f0 := hK.cell (Xk0.out.cell (hxa 0 _ rfl) (show ba < w.heap.size by omega)) (show ba < w.heap.size + 1 + 1 by omega)
          have g0 := hK.cell (Xk0.out.cell (hyb 0 _ rfl) (show bb < w.heap.size by omega)) (show bb < w.heap.size + 1 + 1 by omega)
          have f1 := hK.cell (Xk0.out.cell (hxa 1 _ rfl) (show ba < w.heap.size by omega)) (show ba < w.heap.size + 1 + 1 by omega)
          have g1 := hK.cell (Xk0.out.cell (hyb 1 _ rfl) (show bb < w.heap.size by omega)) (show bb < w.heap.size + 1 + 1 by omega)
          simp only [Nat.add_zero] at f0 g0
          have hb1 : ba < wr.heap.size := by omega
          have hb2 : bb < wr.heap.size := by omega
          have hlt1 : (k : Int) < p.outs.length := by omega
          have hk0 : (0 : Int) ≤ k := by omega
          clear hx hxa hyb b1 b2
          have XhK := Lib.hid hK
          clear hK
          go_wp2_with fail
          go_quiet (fail)
          go_wp2_with fail
          go_roundw
          case rel => exact ⟨k + 1, by omega, by go_num, XhK.out.trans (Keep.drewN' _ _ _)⟩
          case measure => simp [intOf]; omega
        · obtain rfl : k = p.outs.length := by omega
          clear b1 b2
          have XhK := Lib.hid hK
          clear hK
          go_wp2_with fail
          clear c0 c1 c2 e0 e1 e2
          go_loopw [7] (fun i wr => ∃ k : Nat, k ≤ p.rules.length ∧ i = .int .i64 k ∧ Keep (fun b => b < w.heap.size + 1 + 1) W0 wr) (fun i _ => p.rules.length - (intOf i).toNat)
          case atStart => exact ⟨0, by omega, rfl, XhK.out⟩
          case round =>
            obtain ⟨k, hk, rfl, hK⟩ := hrel
            have hs := hK.size
            have b1 := hK.heap Xn1.out (by omega)
            have b2 := hK.heap Xn2.out (by omega)
            have c0 := cells_of_block b1 0 _ rfl
            have c1 := cells_of_block b1 1 _ rfl
            have c2 := cells_of_block b1 2 _ rfl
            have e0 := cells_of_block b2 0 _ rfl
            have e1 := cells_of_block b2 1 _ rfl
            have e2 := cells_of_block b2 2 _ rfl
            simp only [Nat.zero_add] at c0 c1 c2 e0 e1 e2
            have hbs : w.heap.size + 1 < wr.heap.size := by omega
            by_cases hlt : k < p.rules.length
            · obtain ⟨r, hx⟩ : ∃ x, p.rules[k]? = some x := ⟨_, List.getElem?_eq_getElem hlt⟩
              obtain ⟨ba, oa, rfl, hba, sha, sba, hxa, hra⟩ := Xher.out k r hx
              obtain ⟨bb, ob, rfl, hbb, shb, sbb, hyb, hrb⟩ := Xher'.out k r hx
              have kw : Keep (fun b => b < w.heap.size) w wr := Xk0.out.trans (hK.mono fun b _ h => by omega)
              have f0 := kw.cell (hxa 0 _ rfl) (show ba < w.heap.size by omega)
              have f1 := kw.cell (hxa 1 _ rfl) (show ba < w.heap.size by omega)
              have f2 := kw.cell (hxa 2 _ rfl) (show ba < w.heap.size by omega)
              have g0 := kw.cell (hyb 0 _ rfl) (show bb < w.heap.size by omega)
              have g1 := kw.cell (hyb 1 _ rfl) (show bb < w.heap.size by omega)
              have g2 := kw.cell (hyb 2 _ rfl) (show bb < w.heap.size by omega)
              simp only [Nat.add_zero] at f0 g0
              have hra' := hra.keep (w' := wr) (kw.mono fun b _ h => by omega)
              have hrb' := hrb.keep (w' := wr) (kw.mono fun b _ h => by omega)
              have hb1 : ba < wr.heap.size := by omega
              have hb2 : bb < wr.heap.size := by omega
              have hlt1 : (k : Int) < p.rules.length := by omega
              have hk0 : (0 : Int) ≤ k := by omega
              clear hx hxa hyb b1 b2 hra hrb kw
              have XhK := Lib.hid hK
              have Xhra' := Lib.hid hra'
              have Xhrb' := Lib.hid hrb'
              clear hK hra' hrb'
              go_wp2_with fail
              go_still_tail 10, (by kernel_rfl)
              change wpList _ _ _ _ _ wr.drew
              refine list_abs (fun W => Keep (fun _ => True) wr W) (Keep.drew _ _) ?_
              rintro W kd
              have hra2 := Xhra'.out.keep (w' := W) (kd.mono fun _ _ _ => trivial)
              have hrb2 := Xhrb'.out.keep (w' := W) (kd.mono fun _ _ _ => trivial)
              have hKd := XhK.out.trans (kd.mono fun _ _ _ => trivial)
              have sd := kd.size
              clear f0 f1 f2 g0 g1 g2 kd c0 c1 c2 e0 e1 e2
              have Xhra2 := Lib.hid hra2
              have Xhrb2 := Lib.hid hrb2
              have XhKd := Lib.hid hKd
              clear hra2 hrb2 hKd
              go_wp2_with fail
              refine (sameRule_any n r _ _ _ _ W Xhra2.out Xhrb2.out (by omega)).mono ?_
              rintro e W1 ⟨rfl, k1⟩
              have hK1 := XhKd.out.trans (k1.mono fun b _ h => by omega)
              clear k1
              have XhK1 := Lib.hid hK1
              clear hK1
              go_wp2_with fail
              go_roundw
              case rel => exact ⟨k + 1, by omega, by go_num, XhK1.out⟩
              case measure => simp [intOf]; omega
            · obtain rfl : k = p.rules.length := by omega
              have kw : Keep (fun b => b < w.heap.size) w wr := Xk0.out.trans (hK.mono fun b _ h => by omega)
              clear b1 b2 hK
              have Xkw := Lib.hid kw
              clear kw
              go_wp2_with fail
              go_ret
              exact ⟨rfl, Xkw.out⟩

theorem CopiedRow.slice {α : Type} {base sz : Nat} {e : TypeId} {w : World} {v : Value} {xs : List α} (cells : α → List Value) (hs : ∀ x, (cells x).length = sz) {mk : List Value} {E : World → Nat → Nat → α → Prop} (hE : ∀ b o x, x ∈ xs → CellsE w b o (cells x) → E w b o x)
    (h : CopiedRow base e sz w v xs.length (xs.flatMap cells ++ mk)) (hl : xs.length ≤ 1073741824) : SliceIn w.heap.size w sz E v xs := by
  obtain ⟨g, cap, rfl, ho⟩ := h
  have hc := own_cap ho
  refine ⟨_, cap, rfl, hl, ⟨by omega, hc.2.1⟩, fun k x hx => ⟨g, 0, rfl, hc.2.2.1, hE _ _ _ (List.mem_of_getElem? hx) fun j u hj => ?_⟩⟩
  have hj7 : j < sz := by rw [← hs x]; exact (List.getElem?_eq_some_iff.1 hj).1
  have h1 := flatMap_at cells sz hs xs k j x hx hj7
  have h2 : (xs.flatMap cells ++ mk)[k * sz + j]? = some u := by
    rw [← hj, ← h1]
    refine List.getElem?_append_left ?_
    have h3 : (xs.flatMap cells)[k * sz + j]? = some u := by rw [h1, hj]
    exact (List.getElem?_eq_some_iff.1 h3).1
  have := own_elem ho _ _ h2
  rw [Nat.zero_add]
  exact this
theorem CopiedRules.rules {base : Nat} {w : World} {v : Value} {rs : List RuleD} (h : CopiedRules base w v rs) (hl : rs.length ≤ 1073741824) (hla : ∀ r, r ∈ rs → r.head.args.length ≤ 1073741824 ∧ r.body.length ≤ 1073741824 ∧ ∀ L, L ∈ r.body → L.atom.args.length ≤ 1073741824) : RulesIn w.heap.size w v rs := by
  obtain ⟨qs, h1, rfl, h3⟩ := h
  rw [List.flatMap_append, List.length_map] at h1
  have hS := CopiedRow.slice (E := fun w b o (q : RuleD × Value × Value) => q ∈ qs ∧ CellsE w b o (ruleCellsQ q)) ruleCellsQ (fun _ => rfl) (fun b o x hx h => ⟨hx, h⟩) h1 (by simpa using hl)
  obtain ⟨a, cap, hv, hl2, hc, he⟩ := hS
  refine ⟨a, cap, by simpa using hv, by simpa using hl2, by simpa using hc, fun k x hx => ?_⟩
  rw [List.getElem?_map] at hx
  obtain ⟨q, hq, rfl⟩ := Option.map_eq_some_iff.1 hx
  obtain ⟨b, off, e1, e2, e3, e4⟩ := he k q hq
  obtain ⟨l1, l2, l3⟩ := hla q.1 (List.mem_map.2 ⟨q, e3, rfl⟩)
  exact ⟨b, off, e1, e2, q.2.1, q.2.2, e4, (h3 q e3).1.terms l1, (h3 q e3).2.lits l2 l3⟩

set_option maxRecDepth 100000 in
set_option maxHeartbeats 2000000 in
theorem keptProgram_any (n base : Nat) (p : ProgD) (vi vo vr vi' vo' vr' : Value) (w : World)
    (hi : CopiedRow base 75 3 w vi p.ins.length (p.ins.flatMap inpCells ++ [markI, markI].flatMap inpCells)) (ho : CopiedRow base 77 2 w vo p.outs.length (p.outs.flatMap outCells ++ [markO, markO].flatMap outCells))
    (hr : CopiedRules base w vr p.rules) (hb : ProgIn n w vi' vo' vr' p) (hn : n ≤ w.heap.size) (hla : ∀ r, r ∈ p.rules → r.head.args.length ≤ 1073741824 ∧ r.body.length ≤ 1073741824 ∧ ∀ L, L ∈ r.body → L.atom.args.length ≤ 1073741824) :
    Calls Try.prog 15 #[.agg #[vi, vo, vr], .agg #[vi', vo', vr']] w fun e w' => e = .returned (.bool true) ∧ Keep (fun b => b < w.heap.size) w w' := by
  obtain ⟨ai', ci', rfl, hli', hci', hei'⟩ := id hb.i
  obtain ⟨ao', co', rfl, hlo', hco', heo'⟩ := id hb.o
  obtain ⟨ar', cr', rfl, hlr', hcr', her'⟩ := id hb.r
  have hpa : ProgIn w.heap.size w vi vo vr p := ⟨hi.slice inpCells (fun _ => rfl) (fun _ _ _ _ h => h) hli', ho.slice outCells (fun _ => rfl) (fun _ _ _ _ h => h) hlo', hr.rules hlr' hla⟩
  obtain ⟨qs, hrr, hqs, hqt⟩ := id hr
  obtain ⟨gi, ci, rfl, hoi⟩ := id hi
  obtain ⟨go, co, rfl, hoo⟩ := id ho
  obtain ⟨gr, cr, rfl, hor⟩ := id hrr
  have hi1 := own_cap hoi
  have ho1 := own_cap hoo
  have hr1 := own_cap hor
  have hql : qs.length = p.rules.length := by rw [← hqs, List.length_map]
  have mi : w.cell? ⟨gi, p.ins.length * 3, none⟩ = some (.string ⟨#[109, 97, 114, 107]⟩) := by
    refine own_elem hoi (p.ins.length * 3) _ ?_
    rw [List.getElem?_append_right (by rw [flatMap_len inpCells 3 (fun _ => rfl)]; omega), flatMap_len inpCells 3 (fun _ => rfl), Nat.sub_self]
    rfl
  have mo : w.cell? ⟨go, (p.outs.length + 1) * 2, none⟩ = some (.string ⟨#[109, 97, 114, 107]⟩) := by
    refine own_elem hoo ((p.outs.length + 1) * 2) _ ?_
    rw [List.getElem?_append_right (by rw [flatMap_len outCells 2 (fun _ => rfl)]; omega), flatMap_len outCells 2 (fun _ => rfl), show (p.outs.length + 1) * 2 - p.outs.length * 2 = 2 from by omega]
    rfl
  have mr0 : w.cell? ⟨gr, p.rules.length * 3, none⟩ = some (.string ⟨#[109, 97, 114, 107]⟩) := by
    refine own_elem hor (p.rules.length * 3) _ ?_
    rw [List.flatMap_append, List.getElem?_append_right (by rw [flatMap_len ruleCellsQ 3 (fun _ => rfl)]; omega), flatMap_len ruleCellsQ 3 (fun _ => rfl), hql, Nat.sub_self]
    rfl
  have mr1 : w.cell? ⟨gr, (p.rules.length + 1) * 3, none⟩ = some (.string ⟨#[109, 97, 114, 107]⟩) := by
    refine own_elem hor ((p.rules.length + 1) * 3) _ ?_
    rw [List.flatMap_append, List.getElem?_append_right (by rw [flatMap_len ruleCellsQ 3 (fun _ => rfl)]; omega), flatMap_len ruleCellsQ 3 (fun _ => rfl), hql, show (p.rules.length + 1) * 3 - p.rules.length * 3 = 3 from by omega]
    rfl
  have hmk := mark_same
  have hcap1 : (p.ins.length : Int) + 2 ≤ ci := by omega
  have hcap2 : (p.outs.length : Int) + 2 ≤ co := by omega
  have hcap3 : (p.rules.length : Int) + 2 ≤ cr := by omega
  have lgi : gi < w.heap.size := hi1.2.2.1
  have lgo : go < w.heap.size := ho1.2.2.1
  have lgr : gr < w.heap.size := hr1.2.2.1
  have hcellq : ∀ k (q : RuleD × Value × Value), qs[k]? = some q → ∀ j v, (ruleCellsQ q)[j]? = some v → w.cell? ⟨gr, k * 3 + j, none⟩ = some v := fun k q hk j v hj => by
    refine own_elem hor (k * 3 + j) _ ?_
    have hj7 : j < 3 := (List.getElem?_eq_some_iff.1 hj).1
    have := flatMap_at ruleCellsQ 3 (fun _ => rfl) (qs ++ [(markR, Value.slice none 0 0, Value.slice none 0 0), (markR, Value.slice none 0 0, Value.slice none 0 0)]) k j q (by rw [List.getElem?_append_left (List.getElem?_eq_some_iff.1 hk).1]; exact hk) hj7
    rw [this]
    exact hj
  clear hei' heo'
  have Xhi := Lib.hid hi
  have Xho := Lib.hid ho
  have Xhr := Lib.hid hr
  have Xhb := Lib.hid hb
  have Xhpa := Lib.hid hpa
  have Xhrr := Lib.hid hrr
  have Xhqs := Lib.hid hqs
  have Xhqt := Lib.hid hqt
  have Xhoi := Lib.hid hoi
  have Xhoo := Lib.hid hoo
  have Xhor := Lib.hid hor
  have Xhql := Lib.hid hql
  have Xhcellq := Lib.hid hcellq
  have Xher' := Lib.hid her'
  have Xhla := Lib.hid hla
  clear hi ho hr hb hpa hrr hqs hqt hoi hoo hor hql hcellq her' hla
  go_enter Try.func15, Try.ntmps15
  go_wp2_with fail
  refine Calls_abs2 (fun W => Keep (fun k => k < w.heap.size) w W ∧ W.heap.size = w.heap.size + 1 + 1 ∧ W.heap[w.heap.size]? = some (.cells #[.slice (some ⟨gi, 0, none⟩) p.ins.length ci, .slice (some ⟨go, 0, none⟩) p.outs.length co, .slice (some ⟨gr, 0, none⟩) p.rules.length cr] 45 (0, 0)) ∧
     W.heap[w.heap.size + 1]? = some (.cells #[.slice ai' p.ins.length ci', .slice ao' p.outs.length co', .slice ar' p.rules.length cr'] 45 (0, 0)))
     ⟨(Keep.alloc _ _ _).trans (Keep.alloc _ _ _), by simp, by simp only [alloc_get, World.size_alloc]; simp, by simp only [alloc_get, World.size_alloc]; simp⟩ ?_
  rintro W0 ⟨k0, s0, n1, n2⟩
  refine (sameProgram_any w.heap.size p _ _ _ _ _ _ W0 (Xhpa.out.keep k0 (Nat.le_refl _)) ((Xhb.out.wider hn).keep k0 (Nat.le_refl _)) (by omega)).mono ?_
  rintro e W1 ⟨rfl, k1⟩
  have m1 := k1.heap n1 (by omega)
  have m2 := k1.heap n2 (by omega)
  have kw1 : Keep (fun b => b < w.heap.size) w W1 := k0.trans (k1.mono fun b _ h => by omega)
  have z1 : w.heap.size + 1 < W1.heap.size := heap_lt m2
  clear k0 k1 n1 n2
  have Xm1 := Lib.hid m1
  have Xm2 := Lib.hid m2
  have Xkw1 := Lib.hid kw1
  clear m1 m2 kw1
  go_wp2_with fail
  go_loopw [5] (fun i wr => ∃ k : Nat, k ≤ p.rules.length ∧ i = .int .i64 k ∧ Keep (fun b => b < w.heap.size + 1 + 1) W1 wr) (fun i _ => p.rules.length - (intOf i).toNat)
  case atStart => exact ⟨0, by omega, rfl, Keep.refl _ _⟩
  case round =>
    obtain ⟨k, hk, rfl, hK⟩ := hrel
    have hs := hK.size
    have b1 := hK.heap Xm1.out (by omega)
    have b2 := hK.heap Xm2.out (by omega)
    have c0 := cells_of_block b1 0 _ rfl
    have c1 := cells_of_block b1 1 _ rfl
    have c2 := cells_of_block b1 2 _ rfl
    have e0 := cells_of_block b2 0 _ rfl
    have e1 := cells_of_block b2 1 _ rfl
    have e2 := cells_of_block b2 2 _ rfl
    simp only [Nat.zero_add] at c0 c1 c2 e0 e1 e2
    have hbs : w.heap.size + 1 < wr.heap.size := by omega
    have kw : Keep (fun b => b < w.heap.size) w wr := Xkw1.out.trans (hK.mono fun b _ h => by omega)
    by_cases hlt : k < p.rules.length
    · obtain ⟨r, hx⟩ : ∃ x, p.rules[k]? = some x := ⟨_, List.getElem?_eq_getElem hlt⟩
      obtain ⟨q, hq⟩ : ∃ q, qs[k]? = some q := ⟨_, List.getElem?_eq_getElem (by rw [Xhql.out]; exact hlt)⟩
      have hqr : q.1 = r := by
        have h : (qs.map (·.1))[k]? = some q.1 := by rw [List.getElem?_map, hq]; rfl
        rw [Xhqs.out, hx] at h
        exact (Option.some.inj h).symm
      obtain ⟨ct, cb⟩ := Xhqt.out q (List.mem_of_getElem? hq)
      have ctr := ct.keep2 (C := fun b => b < w.heap.size) kw (fun b _ h => h)
      have cbr := cb.keep (C := fun b => b < w.heap.size) kw (fun b _ h => h)
      have hc := Xhcellq.out k q hq
      obtain ⟨bb, ob, rfl, hbb, shb, sbb, hyb, hrb⟩ := Xher'.out k r hx
      have f0 := kw.cell (hc 0 _ rfl) lgr
      have f1 := kw.cell (hc 1 _ rfl) lgr
      have f2 := kw.cell (hc 2 _ rfl) lgr
      have g0 := kw.cell (hyb 0 _ rfl) (show bb < w.heap.size by omega)
      have g1 := kw.cell (hyb 1 _ rfl) (show bb < w.heap.size by omega)
      have g2 := kw.cell (hyb 2 _ rfl) (show bb < w.heap.size by omega)
      simp only [Nat.add_zero] at f0 g0
      obtain ⟨qr, qh, qb⟩ := q
      simp only at hqr ctr cbr f0 f1 f2
      subst hqr
      have hrb' := hrb.keep (w' := wr) (kw.mono fun b _ h => by omega)
      have hb1 : gr < wr.heap.size := by omega
      have hb2 : bb < wr.heap.size := by omega
      have hlt1 : (k : Int) < p.rules.length := by omega
      have hk0 : (0 : Int) ≤ k := by omega
      have hlaL := (Xhla.out qr (List.mem_of_getElem? hx)).2.2
      clear hx hq hc hyb b1 b2 hrb kw ct cb mi mo mr0 mr1
      have XhK := Lib.hid hK
      have Xhrb' := Lib.hid hrb'
      have Xctr := Lib.hid ctr
      have Xcbr := Lib.hid cbr
      have XhlaL := Lib.hid hlaL
      clear hK hrb' ctr cbr hlaL
      go_wp2_with fail
      go_still_tail 10, (by kernel_rfl)
      change wpList _ _ _ _ _ wr.drew
      refine list_abs (fun W => Keep (fun _ => True) wr W) (Keep.drew _ _) ?_
      rintro W kd
      have ct2 := Xctr.out.keep2 kd (fun _ _ _ => trivial)
      have cb2 := Xcbr.out.keep kd (fun _ _ _ => trivial)
      have hrb2 := Xhrb'.out.keep (w' := W) (kd.mono fun _ _ _ => trivial)
      have hKd := XhK.out.trans (kd.mono fun _ _ _ => trivial)
      have sd := kd.size
      clear f0 f1 f2 g0 g1 g2 kd c0 c1 c2 e0 e1 e2
      have Xct2 := Lib.hid ct2
      have Xcb2 := Lib.hid cb2
      have Xhrb2 := Lib.hid hrb2
      have XhKd := Lib.hid hKd
      clear ct2 cb2 hrb2 hKd
      go_wp2_with fail
      refine (keptRule_any n base qr _ _ _ _ W Xct2.out Xcb2.out Xhrb2.out (by omega) XhlaL.out).mono ?_
      rintro e W2 ⟨rfl, k2⟩
      have hK1 := XhKd.out.trans (k2.mono fun b _ h => by omega)
      clear k2
      have XhK1 := Lib.hid hK1
      clear hK1
      go_wp2_with fail
      go_roundw
      case rel => exact ⟨k + 1, by omega, by go_num, XhK1.out⟩
      case measure => simp [intOf]; omega
    · obtain rfl : k = p.rules.length := by omega
      have xi := kw.cell mi lgi
      have xo := kw.cell mo lgo
      have xr0 := kw.cell mr0 lgr
      have xr1 := kw.cell mr1 lgr
      have l1 : gi < wr.heap.size := by omega
      have l2 : go < wr.heap.size := by omega
      have l3 : gr < wr.heap.size := by omega
      clear b1 b2 hK mi mo mr0 mr1
      have Xkw := Lib.hid kw
      clear kw
      go_wp2_with fail
      go_ret
      exact ⟨rfl, Xkw.out⟩
end Go.Proofs
