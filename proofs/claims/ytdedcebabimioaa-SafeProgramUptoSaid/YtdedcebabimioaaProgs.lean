/- Programs in memory; inklingref09.CopyProgram. -/
import Derived.Test.YtdedcebabimioaaProg
import Derived.Test.YtdedcebabimioaaCopyR
import Derived.Test.YtdedcebabimioaaRule
import Derived.Test.YtdedcebabimioaaKept
import Derived.StillTailTactics
namespace Go.Proofs
open Go.RowKit Go.Ink
set_option linter.unusedVariables false
set_option linter.unusedSimpArgs false
attribute [local go_sem] Oper.semAt_some

structure InpD where
  pred : ByteArray
  arity : Int
  file : ByteArray
  deriving Inhabited
structure OutD where
  pred : ByteArray
  arity : Int
  deriving Inhabited
structure ProgD where
  ins : List InpD
  outs : List OutD
  rules : List RuleD
def inpCells (x : InpD) : List Value := [.string x.pred, .int .i64 x.arity, .string x.file]
def outCells (x : OutD) : List Value := [.string x.pred, .int .i64 x.arity]
def InpE (w : World) (b o : Nat) (x : InpD) : Prop := CellsE w b o (inpCells x)
def OutE (w : World) (b o : Nat) (x : OutD) : Prop := CellsE w b o (outCells x)
abbrev InpsIn (n : Nat) (w : World) (v : Value) (xs : List InpD) : Prop := SliceIn n w 3 InpE v xs
abbrev OutsIn (n : Nat) (w : World) (v : Value) (xs : List OutD) : Prop := SliceIn n w 2 OutE v xs
def markI : InpD := ⟨⟨#[109, 97, 114, 107]⟩, 0, ⟨#[]⟩⟩
def markO : OutD := ⟨⟨#[109, 97, 114, 107]⟩, 0⟩
def markR : RuleD := ⟨⟨⟨#[109, 97, 114, 107]⟩, []⟩, []⟩
theorem el_inp : ElemOf Try.prog 42 75 3 40 := elem_of (z := .agg #[.string ⟨#[]⟩, .int .i64 0, .string ⟨#[]⟩]) (by kernel_rfl) (by kernel_rfl) rfl (by decide) (by decide)
theorem el_out : ElemOf Try.prog 43 77 2 24 := elem_of (z := .agg #[.string ⟨#[]⟩, .int .i64 0]) (by kernel_rfl) (by kernel_rfl) rfl (by decide) (by decide)
theorem el_rule : ElemOf Try.prog 41 27 3 64 := elem_of (z := .agg #[.string ⟨#[]⟩, .slice none 0 0, .slice none 0 0]) (by kernel_rfl) (by kernel_rfl) rfl (by decide) (by decide)

/-- the cells of a slice, one after the other -/
theorem slice_cells {α : Type} {n : Nat} {w : World} {sz : Nat} {E : World → Nat → Nat → α → Prop} (cells : α → List Value) (hs : ∀ x, (cells x).length = sz) (hsz : 0 < sz) (hE : ∀ b o x, E w b o x → CellsE w b o (cells x)) {v : Value} {xs : List α} {a : Option Addr} {c : Nat} (h : SliceIn n w sz E v xs) (hv : v = .slice a xs.length c) :
    (∀ b, a = some b → ∀ j u, (xs.flatMap cells)[j]? = some u → w.cell? (b.add j) = some u) ∧ (a = none → xs.length = 0) := by
  obtain ⟨a', cap, hv', hl, hc, he⟩ := h
  rw [hv] at hv'
  cases hv'
  refine ⟨fun b hb j u hj => ?_, fun ha => ?_⟩
  · have hlt := (List.getElem?_eq_some_iff.1 hj).1
    rw [flatMap_len cells sz hs] at hlt
    have hq : j / sz < xs.length := Nat.div_lt_of_lt_mul (by rw [Nat.mul_comm]; exact hlt)
    have hr : j % sz < sz := Nat.mod_lt _ hsz
    obtain ⟨b', off, ha, hb', e⟩ := he (j / sz) (xs[j / sz]) (List.getElem?_eq_getElem hq)
    rw [hb] at ha
    cases ha
    have hk := flatMap_at cells sz hs xs (j / sz) (j % sz) _ (List.getElem?_eq_getElem hq) hr
    rw [show j / sz * sz + j % sz = j from by rw [Nat.mul_comm]; exact Nat.div_add_mod j sz] at hk
    rw [hk] at hj
    have := hE _ _ _ e (j % sz) u hj
    rw [show ((⟨b', off, none⟩ : Addr).add j) = ⟨b', off + j, none⟩ from by unfold Addr.add; split <;> simp_all]
    rwa [Nat.add_assoc, show j / sz * sz + j % sz = j from by rw [Nat.mul_comm]; exact Nat.div_add_mod j sz] at this
  · by_cases h0 : xs.length = 0
    · exact h0
    · obtain ⟨b, off, hb, _⟩ := he 0 xs[0] (List.getElem?_eq_getElem (by omega))
      rw [ha] at hb; cases hb

/-- 'append(append([]T(nil), x...), m, m)' -/
theorem copy_row {P : Program} {t e : TypeId} {size bytes : Nat} (hE : ElemOf P t e size bytes) (ty : TypeId) (w : World) (a : Option Addr) (m c : Nat) (news mk : List Value) (hl : news.length = m * size)
    (hnews : ∀ b, a = some b → ∀ j u, news[j]? = some u → w.cell? (b.add j) = some u) (hn : a = none → m = 0) (h1 : ∀ u ∈ news, u.oneCell' = true) (hm : m ≤ 1073741824) (hmk : mk.length = 2 * size) (hmk1 : ∀ u ∈ mk, u.oneCell' = true) :
    ∃ v1 W1 g cap W2, (Builtin.append_ #[t, t] ty #[.slice none 0 0, .slice a m c]).run P w = .ok v1 W1 ∧ (Builtin.append_ #[t, t] ty #[v1, .slice (some ⟨W1.heap.size, 0, none⟩) 2 2]).run P (W1.alloc (.cells mk.toArray e)) = .ok (.slice (some ⟨g, 0, none⟩) (m + 2) cap) W2 ∧
      W2.ownsRow w.heap.size e size (.slice (some ⟨g, 0, none⟩) (m + 2) cap) (m + 2) (news ++ mk) ∧ Keep (fun k => k < w.heap.size) w W2 ∧ w.heap.size ≤ W1.heap.size := by
  obtain ⟨v1, W1, hr1, ho1, hk1⟩ := app_copy hE ty w a m c news hl hnews hn h1 hm
  obtain ⟨v2, W2, hr2, ho2, hk2, g2, cap2, hv2, hg2, hl2⟩ := app hE ty (w := W1.alloc (.cells mk.toArray e)) (own_kept ho1 (Keep.alloc (fun _ => True) _ _) (fun _ _ => trivial)) ⟨W1.heap.size, 0, none⟩ 2 2 mk hmk
    (fun j u hj => by
      have := cells_of_block (new_block W1 (.cells mk.toArray e)) j u (by simpa using hj)
      simp only [Nat.zero_add] at this
      rw [show ((⟨W1.heap.size, 0, none⟩ : Addr).add j) = ⟨W1.heap.size, j, none⟩ from by unfold Addr.add; split <;> simp_all]
      exact this) hmk1 (by omega) (by omega) (by have := hk1.size; simp; omega)
  subst hv2
  exact ⟨v1, W1, g2, cap2, W2, hr1, hr2, ho2, ((hk1.mono fun _ _ _ => trivial).trans (Keep.alloc _ _ _)).trans (hk2.mono fun b _ h => own_not ho1 h), hk1.size⟩

theorem flat_one {α : Type} (cells : α → List Value) (h : ∀ x, ∀ u ∈ cells x, u.oneCell' = true) (xs : List α) : ∀ u ∈ xs.flatMap cells, u.oneCell' = true := by
  intro u hu
  obtain ⟨x, _, hx⟩ := List.mem_flatMap.1 hu
  exact h x u hx

/-- a copied row: the slice, and the whole row with its marks -/
def CopiedRow (base : Nat) (e : TypeId) (sz : Nat) (w : World) (v : Value) (m : Nat) (xs : List Value) : Prop := ∃ g cap, v = .slice (some ⟨g, 0, none⟩) m cap ∧ w.ownsRow base e sz (.slice (some ⟨g, 0, none⟩) (m + 2) cap) (m + 2) xs
theorem CopiedRow.keep {base : Nat} {e : TypeId} {sz : Nat} {w w' : World} {v : Value} {m : Nat} {xs : List Value} {C : Nat → Prop} (h : CopiedRow base e sz w v m xs) (hK : Keep C w w') (hC : ∀ b, base ≤ b → b < w.heap.size → C b) : CopiedRow base e sz w' v m xs := by
  obtain ⟨g, cap, rfl, h⟩ := h
  exact ⟨g, cap, rfl, own_kept h hK (fun b hb => by have := World.ownsRow.lt h b hb; exact hC b this.1 this.2)⟩
def ruleCellsQ (q : RuleD × Value × Value) : List Value := [.string q.1.head.pred, q.2.1, q.2.2]
def CopiedRules (base : Nat) (w : World) (v : Value) (rs : List RuleD) : Prop := ∃ qs : List (RuleD × Value × Value),
  CopiedRow base 27 3 w v rs.length ((qs ++ [(markR, Value.slice none 0 0, Value.slice none 0 0), (markR, Value.slice none 0 0, Value.slice none 0 0)]).flatMap ruleCellsQ) ∧ qs.map (·.1) = rs ∧
  ∀ q, q ∈ qs → CopiedTerms base w q.2.1 q.1.head.args ∧ CopiedBody base w q.2.2 q.1.body
theorem CopiedRules.keep {base : Nat} {w w' : World} {v : Value} {rs : List RuleD} {C : Nat → Prop} (h : CopiedRules base w v rs) (hK : Keep C w w') (hC : ∀ b, base ≤ b → b < w.heap.size → C b) : CopiedRules base w' v rs := by
  obtain ⟨qs, h1, h2, h3⟩ := h
  exact ⟨qs, h1.keep hK hC, h2, fun q hq => ⟨(h3 q hq).1.keep2 hK hC, (h3 q hq).2.keep hK hC⟩⟩
theorem CopiedRow.mono {base base' : Nat} {e : TypeId} {sz : Nat} {w : World} {v : Value} {m : Nat} {xs : List Value} (h : CopiedRow base e sz w v m xs) (hb : base' ≤ base) : CopiedRow base' e sz w v m xs := by
  obtain ⟨g, cap, rfl, h⟩ := h
  exact ⟨g, cap, rfl, h.mono hb⟩
theorem CopiedRules.mono {base base' : Nat} {w : World} {v : Value} {rs : List RuleD} (h : CopiedRules base w v rs) (hb : base' ≤ base) : CopiedRules base' w v rs := by
  obtain ⟨qs, h1, h2, h3⟩ := h
  exact ⟨qs, h1.mono hb, h2, fun q hq => ⟨(h3 q hq).1.mono hb, (h3 q hq).2.mono hb⟩⟩
/-- a copied rule, as long as nobody writes between lo and hi -/
def StaysR (lo hi : Nat) (q : RuleD × Value × Value) (w : World) : Prop := ∀ w', Keep (fun b => lo ≤ b ∧ b < hi) w w' → CopiedTerms lo w' q.2.1 q.1.head.args ∧ CopiedBody lo w' q.2.2 q.1.body
theorem StaysR.keep {lo hi : Nat} {q : RuleD × Value × Value} {w w' : World} {C : Nat → Prop} (h : StaysR lo hi q w) (hK : Keep C w w') (hC : ∀ b, lo ≤ b → b < hi → C b) : StaysR lo hi q w' :=
  fun w2 h2 => h w2 ((hK.mono fun b _ hb => hC b hb.1 hb.2).trans h2)

set_option maxRecDepth 100000 in
set_option maxHeartbeats 2000000 in
theorem copyProgram_any (n0 : Nat) (p : ProgD) (vi vo vr : Value) (w : World) (hi : InpsIn n0 w vi p.ins) (ho : OutsIn n0 w vo p.outs) (hr : RulesIn n0 w vr p.rules) (hn : n0 ≤ w.heap.size) :
    Calls Try.prog 11 #[.agg #[vi, vo, vr]] w fun e w' => ∃ vi' vo' vr', e = .returned (.agg #[vi', vo', vr']) ∧ Keep (fun k => k < w.heap.size) w w' ∧
      CopiedRow w.heap.size 75 3 w' vi' p.ins.length (p.ins.flatMap inpCells ++ [markI, markI].flatMap inpCells) ∧ CopiedRow w.heap.size 77 2 w' vo' p.outs.length (p.outs.flatMap outCells ++ [markO, markO].flatMap outCells) ∧
      CopiedRules w.heap.size w' vr' p.rules := by
  obtain ⟨ai, ci, rfl, hli, hci, hei⟩ := id hi
  obtain ⟨ao, co, rfl, hlo, hco, heo⟩ := id ho
  obtain ⟨ar, cr, rfl, hlr, hcr, her⟩ := id hr
  obtain ⟨W0, hW0⟩ : ∃ W0, (w.alloc (.cells #[.slice ai p.ins.length ci, .slice ao p.outs.length co, .slice ar p.rules.length cr] 45)).alloc (.cells #[.slice none 0 0, .slice none 0 0, .slice none 0 0] 45) = W0 := ⟨_, rfl⟩
  have k0 : Keep (fun _ => True) w W0 := by rw [← hW0]; exact (Keep.alloc _ _ _).trans (Keep.alloc _ _ _)
  have s0 : W0.heap.size = w.heap.size + 1 + 1 := by rw [← hW0]; simp
  have n1 : W0.heap[w.heap.size]? = some (.cells #[.slice ai p.ins.length ci, .slice ao p.outs.length co, .slice ar p.rules.length cr] 45 (0, 0)) := by rw [← hW0]; exact old_block (new_block _ _) _
  have n2 : W0.heap[w.heap.size + 1]? = some (.cells #[.slice none 0 0, .slice none 0 0, .slice none 0 0] 45 (0, 0)) := by rw [← hW0]; simp only [alloc_get, World.size_alloc]; simp
  have hsi := slice_cells inpCells (fun _ => rfl) (by omega) (fun _ _ _ h => h) (hi.mono (w' := W0) (E' := InpE) fun b o x hb h => h.keep (n := n0) hb (k0.mono fun _ _ _ => trivial)) rfl
  obtain ⟨v1, W1, g3, c3, W2, hr1, hr2, ho2, hk2, z1⟩ := copy_row (P := Try.prog) el_inp 42 W0 ai p.ins.length ci (p.ins.flatMap inpCells) ([markI, markI].flatMap inpCells) (flatMap_len _ 3 (fun _ => rfl) _) hsi.1 hsi.2 (flat_one _ (by simp [inpCells, Value.oneCell']) _) hli rfl (flat_one _ (by simp [inpCells, Value.oneCell']) _)
  have hso := slice_cells outCells (fun _ => rfl) (by omega) (fun _ _ _ h => h) (ho.mono (w' := W2) (E' := OutE) fun b o x hb h => h.keep (n := n0) hb ((k0.mono fun _ _ _ => trivial).trans (hk2.mono fun b _ hb => by omega))) rfl
  obtain ⟨v4, W3, g4, c4, W4, hr3, hr4, ho4, hk4, z3⟩ := copy_row (P := Try.prog) el_out 43 W2 ao p.outs.length co (p.outs.flatMap outCells) ([markO, markO].flatMap outCells) (flatMap_len _ 2 (fun _ => rfl) _) hso.1 hso.2 (flat_one _ (by simp [outCells, Value.oneCell']) _) hlo rfl (flat_one _ (by simp [outCells, Value.oneCell']) _)
  have z2 := hk2.size
  have z4 := hk4.size
  have m1 := hk2.heap n1 (by omega)
  have m2 := hk2.heap n2 (by omega)
  have q1 := hk4.heap m1 (by omega)
  have q2 := hk4.heap m2 (by omega)
  have c0 := cells_of_block n1 0 _ rfl
  have c1 := cells_of_block m1 1 _ rfl
  have c2 := cells_of_block q1 2 _ rfl
  simp only [Nat.zero_add] at c0 c1 c2
  have hw1 : w.heap.size < W2.heap.size := by omega
  have kw4 : Keep (fun k => k < w.heap.size + 1 + 1) W0 W4 := (hk2.mono fun b _ h => by omega).trans (hk4.mono fun b _ h => by omega)
  have ho2' := own_kept ho2 hk4 (fun b hb => (World.ownsRow.lt ho2 b hb).2)
  have hkw : Keep (fun k => k < w.heap.size) w W4 := (k0.mono fun _ _ _ => trivial).trans (kw4.mono fun b _ h => by omega)
  simp only [List.flatMap_cons, List.flatMap_nil, List.append_nil, inpCells, outCells, markI, markO, List.cons_append, List.nil_append] at hr2 hr4
  clear hsi hso m1 m2 hei heo
  have Xhi := Lib.hid hi
  have Xho := Lib.hid ho
  have Xhr := Lib.hid hr
  have Xher := Lib.hid her
  have Xhr1 := Lib.hid hr1
  have Xhr2 := Lib.hid hr2
  have Xhr3 := Lib.hid hr3
  have Xhr4 := Lib.hid hr4
  have Xho2 := Lib.hid ho2
  have Xho2' := Lib.hid ho2'
  have Xho4 := Lib.hid ho4
  have Xhk2 := Lib.hid hk2
  have Xhk4 := Lib.hid hk4
  have Xn1 := Lib.hid n1
  have Xn2 := Lib.hid n2
  have Xq1 := Lib.hid q1
  have Xq2 := Lib.hid q2
  have Xk0 := Lib.hid k0
  have Xkw4 := Lib.hid kw4
  have Xhkw := Lib.hid hkw
  clear hi ho hr her hr1 hr2 hr3 hr4 ho2 ho2' ho4 hk2 hk4 n1 n2 q1 q2 k0 kw4 hkw
  go_enter Try.func11, Try.ntmps11
  go_wp2_with (at_builtin; first | refine go_app rfl _ _ _ rfl rfl rfl Xhr1.out ?_ | refine go_app rfl _ _ _ rfl rfl rfl Xhr2.out ?_ | refine go_app rfl _ _ _ rfl rfl rfl Xhr3.out ?_ | refine go_app rfl _ _ _ rfl rfl rfl Xhr4.out ?_)
  go_loopw [5, 6] (fun v5 ix wr => ∃ (k : Nat) (qs : List (RuleD × Value × Value)), k ≤ p.rules.length ∧ ix = .int .i64 k ∧ Keep (fun k => k < W4.heap.size) W4 wr ∧ wr.ownsRow W4.heap.size 27 3 v5 qs.length (qs.flatMap ruleCellsQ) ∧ qs.map (·.1) = p.rules.take k ∧
     ∀ q, q ∈ qs → ∃ lo hi, W4.heap.size ≤ lo ∧ hi ≤ wr.heap.size ∧ StaysR lo hi q wr ∧ ∀ b, Value.ownBlock v5 = some b → b < lo ∨ hi ≤ b) (fun _ i _ => p.rules.length - (intOf i).toNat)
  case atStart => exact ⟨0, [], by omega, rfl, Keep.refl _ _, World.ownsRow_nil _ _ _ _, rfl, by simp⟩
  case round =>
    obtain ⟨k, qs, hk, rfl, hK, hO, hqs, hst⟩ := hrel
    have hszk := hK.size
    have b1 := hK.heap Xq1.out (by omega)
    have b2 := hK.heap Xq2.out (by omega)
    clear c0 c1 c2
    have c0 := cells_of_block b1 0 _ rfl
    have c1 := cells_of_block b1 1 _ rfl
    have c2 := cells_of_block b1 2 _ rfl
    simp only [Nat.zero_add] at c0 c1 c2
    have hql : qs.length = k := by
      have h := congrArg List.length hqs
      rw [List.length_map, List.length_take] at h
      omega
    have kw := Xhkw.out.trans (hK.mono fun b _ h => by omega)
    by_cases hlt : k < p.rules.length
    · obtain ⟨r, hrk⟩ : ∃ r, p.rules[k]? = some r := ⟨_, List.getElem?_eq_getElem hlt⟩
      obtain ⟨b, off, rfl, hb, sh, sb, hcl, hri⟩ := Xher.out k r hrk
      have g : ∀ j v, (ruleCells r sh sb)[j]? = some v → wr.cell? ⟨b, off + k * 3 + j, none⟩ = some v := fun j v h => kw.cell (hcl j v h) (show b < w.heap.size by omega)
      have hriw := hri.keep (w' := wr) (kw.mono fun b _ h => by omega)
      obtain ⟨⟨ah, capH, rfl, hlenh, hcaph, helh⟩, ⟨ab, capB, rfl, hlenb, hcapb, helb⟩⟩ := id hri
      have f0 := g 0 _ rfl
      have f1 := g 1 _ rfl
      have f2 := g 2 _ rfl
      simp only [Nat.add_zero] at f0
      have hbw : b < wr.heap.size := by omega
      have hqs2 : p.rules.take (k + 1) = p.rules.take k ++ [r] := by rw [List.take_add_one, hrk]; rfl
      clear g hcl helh helb hri hrk
      have XhK := Lib.hid hK
      have XhO := Lib.hid hO
      have Xhqs := Lib.hid hqs
      have Xhst := Lib.hid hst
      have Xb1 := Lib.hid b1
      have Xb2 := Lib.hid b2
      have Xkw := Lib.hid kw
      have Xhriw := Lib.hid hriw
      have Xhqs2 := Lib.hid hqs2
      have Xhql := Lib.hid hql
      clear hK hO hqs hst b1 b2 kw hriw hqs2 hql
      go_wp2_with fail
      refine (copyRule_any n0 r _ _ wr Xhriw.out (by omega)).mono ?_
      rintro e W6 ⟨vh, vb, rfl, k6, ct6, cb6⟩
      have z6 := k6.size
      have hSt6 : StaysR wr.heap.size W6.heap.size (r, vh, vb) W6 := fun w' h' => ⟨ct6.keep2 h' (fun b h1 h2 => ⟨h1, h2⟩), cb6.keep h' (fun b h1 h2 => ⟨h1, h2⟩)⟩
      obtain ⟨gh, ch, rfl, _⟩ := id ct6
      obtain ⟨gb, cb, pss, rfl, _⟩ := id cb6
      have hO6 := own_kept XhO.out k6 (fun b hb => (World.ownsRow.lt XhO.out b hb).2)
      have hOb : ∀ b, Value.ownBlock u5 = some b → W4.heap.size ≤ b ∧ b < wr.heap.size := fun b hb => World.ownsRow.lt XhO.out b hb
      obtain ⟨v', W7, hr7, ho7, hk7, g7, cap7, hv7, hg7, hl7⟩ := app1 el_rule 41 hO6 (ruleCellsQ (r, .slice (some ⟨gh, 0, none⟩) r.head.args.length ch, .slice (some ⟨gb, 0, none⟩) r.body.length cb)) rfl (by simp [ruleCellsQ, Value.oneCell']) (by have := Xhql.out; omega) (by omega)
      subst hv7
      have z7 := hk7.size
      have K7 := XhK.out.trans ((k6.mono fun b _ h => by omega).trans (hk7.mono fun b _ h => own_not hO6 h))
      have ho8 : W7.ownsRow W4.heap.size 27 3 (.slice (some ⟨g7, 0, none⟩) (qs.length + 1) cap7) (qs ++ [(r, Value.slice (some ⟨gh, 0, none⟩) r.head.args.length ch, Value.slice (some ⟨gb, 0, none⟩) r.body.length cb)]).length ((qs ++ [(r, Value.slice (some ⟨gh, 0, none⟩) r.head.args.length ch, Value.slice (some ⟨gb, 0, none⟩) r.body.length cb)]).flatMap ruleCellsQ) := by
        simpa using ho7
      have hqs3 : (qs ++ [(r, Value.slice (some ⟨gh, 0, none⟩) r.head.args.length ch, Value.slice (some ⟨gb, 0, none⟩) r.body.length cb)]).map (·.1) = p.rules.take (k + 1) := by
        rw [List.map_append, Xhqs.out, Xhqs2.out]; rfl
      have hst7 : ∀ q, q ∈ qs ++ [(r, Value.slice (some ⟨gh, 0, none⟩) r.head.args.length ch, Value.slice (some ⟨gb, 0, none⟩) r.body.length cb)] → ∃ lo hi, W4.heap.size ≤ lo ∧ hi ≤ W7.heap.size ∧ StaysR lo hi q W7 ∧ ∀ b, Value.ownBlock (.slice (some ⟨g7, 0, none⟩) (qs.length + 1) cap7) = some b → b < lo ∨ hi ≤ b := fun q hq => by
        rcases List.mem_append.1 hq with hq | hq
        · obtain ⟨lo, hi, h1, h2, h3, h4⟩ := Xhst.out q hq
          refine ⟨lo, hi, h1, by omega, (h3.keep k6 (fun b hb1 hb2 => by omega)).keep hk7 (fun b hb1 hb2 e => by have := h4 b e.symm; omega), fun b hb => ?_⟩
          simp only [Value.ownBlock, Option.some.injEq] at hb
          subst hb
          rcases hg7 with h | h
          · exact h4 _ h
          · omega
        · simp only [List.mem_singleton] at hq
          subst hq
          refine ⟨wr.heap.size, W6.heap.size, by omega, by omega, hSt6.keep hk7 (fun b hb1 hb2 e => by have := hOb b e.symm; omega), fun b hb => ?_⟩
          simp only [Value.ownBlock, Option.some.injEq] at hb
          subst hb
          rcases hg7 with h | h
          · have := hOb _ h; omega
          · omega
      simp only [ruleCellsQ] at hr7
      clear k6 ct6 cb6 hSt6 hO6 ho7 hk7 hg7 hl7 f0 f1 f2
      have Xhr7 := Lib.hid hr7
      have XK7 := Lib.hid K7
      have Xho8 := Lib.hid ho8
      have Xhqs3 := Lib.hid hqs3
      have Xhst7 := Lib.hid hst7
      clear hr7 K7 ho8 hqs3 hst7
      go_wp2_with (at_builtin; refine go_app rfl _ _ _ rfl rfl rfl Xhr7.out ?_)
      go_roundw
      case rel => exact ⟨k + 1, _, by omega, by go_num, XK7.out, Xho8.out, Xhqs3.out, Xhst7.out⟩
      case measure => simp [intOf]; omega
    · obtain rfl : k = p.rules.length := by omega
      rw [List.take_length] at hqs
      obtain ⟨v8, W8, hr8, ho8, hk8, g8, cap8, hv8, hg8, hl8⟩ := app (P := Try.prog) el_rule 41 (own_kept hO (Keep.alloc (fun _ => True) wr (.cells ([(markR, Value.slice none 0 0, Value.slice none 0 0), (markR, Value.slice none 0 0, Value.slice none 0 0)].flatMap ruleCellsQ).toArray 27)) (fun _ _ => trivial)) ⟨wr.heap.size, 0, none⟩ 2 2 ([(markR, Value.slice none 0 0, Value.slice none 0 0), (markR, Value.slice none 0 0, Value.slice none 0 0)].flatMap ruleCellsQ) rfl
        (fun j u hj => by
          have := cells_of_block (new_block wr (.cells ([(markR, Value.slice none 0 0, Value.slice none 0 0), (markR, Value.slice none 0 0, Value.slice none 0 0)].flatMap ruleCellsQ).toArray 27)) j u (by simpa using hj)
          simp only [Nat.zero_add] at this
          rw [show ((⟨wr.heap.size, 0, none⟩ : Addr).add j) = ⟨wr.heap.size, j, none⟩ from by unfold Addr.add; split <;> simp_all]
          exact this) (by simp [ruleCellsQ, Value.oneCell']) (by omega) (by omega) (by simp; omega)
      subst hv8
      rw [hql] at hr8 ho8
      have k8 : Keep (fun b => some b ≠ Value.ownBlock u5) wr W8 := (Keep.alloc _ _ _).trans hk8
      have K8 : Keep (fun k => k < W4.heap.size) W4 W8 := hK.trans (k8.mono fun b _ h => own_not hO h)
      have hcr := own_cap ho8
      have hcr1 : (p.rules.length : Int) ≤ cap8 := by omega
      have hc3 := own_cap Xho2'.out
      have hc4 := own_cap Xho4.out
      have hci1 : (p.ins.length : Int) ≤ c3 := by omega
      have hco1 : (p.outs.length : Int) ≤ c4 := by omega
      have hRules : CopiedRules (w.heap.size + 1 + 1) W8 (.slice (some ⟨g8, 0, none⟩) p.rules.length cap8) p.rules := by
        refine ⟨qs, ⟨g8, cap8, rfl, ?_⟩, hqs, fun q hq => ?_⟩
        · rw [List.flatMap_append]
          exact ho8.mono (by omega)
        · obtain ⟨lo, hi, h1, h2, h3, h4⟩ := hst q hq
          obtain ⟨e1, e2⟩ := (h3.keep k8 (fun b hb1 hb2 e => by have := h4 b e.symm; omega)) W8 (Keep.refl _ _)
          exact ⟨e1.mono (by omega), e2.mono (by omega)⟩
      have hIns : CopiedRow (w.heap.size + 1 + 1) 75 3 W8 (.slice (some ⟨g3, 0, none⟩) p.ins.length c3) p.ins.length (p.ins.flatMap inpCells ++ [markI, markI].flatMap inpCells) :=
        ⟨g3, c3, rfl, (own_kept Xho2'.out K8 (fun b hb => (World.ownsRow.lt Xho2'.out b hb).2)).mono (by omega)⟩
      have hOuts : CopiedRow (w.heap.size + 1 + 1) 77 2 W8 (.slice (some ⟨g4, 0, none⟩) p.outs.length c4) p.outs.length (p.outs.flatMap outCells ++ [markO, markO].flatMap outCells) :=
        ⟨g4, c4, rfl, (own_kept Xho4.out K8 (fun b hb => (World.ownsRow.lt Xho4.out b hb).2)).mono (by omega)⟩
      have d1 := K8.heap Xq1.out (by omega)
      have d2 := K8.heap Xq2.out (by omega)
      have kw8 := Xhkw.out.trans (K8.mono fun b _ h => by omega)
      have s8 := K8.size
      have hw8 : w.heap.size + 1 < W8.heap.size := by omega
      simp only [List.flatMap_cons, List.flatMap_nil, List.append_nil, ruleCellsQ, markR, List.cons_append, List.nil_append] at hr8
      have c2' := c2
      clear c0 c1 c2 b1 b2 hO hst hK kw k8 hk8 hg8 ho8
      have c0 := cells_of_block d1 0 _ rfl
      have c1 := cells_of_block d1 1 _ rfl
      have c2 := cells_of_block d1 2 _ rfl
      simp only [Nat.zero_add] at c0 c1 c2
      have Xhr8 := Lib.hid hr8
      have XhRules := Lib.hid hRules
      have XhIns := Lib.hid hIns
      have XhOuts := Lib.hid hOuts
      have Xd1 := Lib.hid d1
      have Xd2 := Lib.hid d2
      have Xkw8 := Lib.hid kw8
      have XK8 := Lib.hid K8
      have Xhqs := Lib.hid hqs
      have Xhql := Lib.hid hql
      clear hr8 hRules hIns hOuts d1 d2 kw8 K8 hqs hql
      go_wp2_with (at_builtin; refine go_app rfl _ _ _ rfl rfl rfl Xhr8.out ?_)
      go_still_tail 16, (by kernel_rfl)
      change wpList _ _ _ _ _ W8.drew
      generalize hW9 : W8.drew = W9
      have kd : Keep (fun _ => True) W8 W9 := by rw [← hW9]; exact Keep.drew _ _
      have x2 := kd.heap Xd2.out trivial
      have y0 := box_free x2 0
      have y1 := box_free x2 1
      have y2 := box_free x2 2
      have x0' := cells_of_block x2 0 _ rfl
      have x1' := cells_of_block x2 1 _ rfl
      have x2' := cells_of_block x2 2 _ rfl
      simp only [Nat.zero_add] at x0' x1' x2'
      have kw9 := Xkw8.out.trans (kd.mono fun _ _ _ => trivial)
      have hI9 := XhIns.out.keep kd (fun _ _ _ => trivial)
      have hO9 := XhOuts.out.keep kd (fun _ _ _ => trivial)
      have hR9 := XhRules.out.keep kd (fun _ _ _ => trivial)
      have s9 : w.heap.size + 1 < W9.heap.size := heap_lt x2
      clear hW9 kd c0 c1 c2 c2'
      have Xx2 := Lib.hid x2
      have Xkw9 := Lib.hid kw9
      have XhI9 := Lib.hid hI9
      have XhO9 := Lib.hid hO9
      have XhR9 := Lib.hid hR9
      clear x2 kw9 hI9 hO9 hR9
      go_wp2
      have q : (((W9.setCell ⟨w.heap.size + 1, 0, none⟩ (.slice (some ⟨g3, 0, none⟩) p.ins.length c3)).setCell ⟨w.heap.size + 1, 1, none⟩ (.slice (some ⟨g4, 0, none⟩) p.outs.length c4)).setCell ⟨w.heap.size + 1, 2, none⟩ (.slice (some ⟨g8, 0, none⟩) p.rules.length cap8)).heap[w.heap.size + 1]? =
          some (.cells #[.slice (some ⟨g3, 0, none⟩) p.ins.length c3, .slice (some ⟨g4, 0, none⟩) p.outs.length c4, .slice (some ⟨g8, 0, none⟩) p.rules.length cap8] 45 (0, 0)) := set_at 2 _ (set_at 1 _ (set_at 0 _ Xx2.out))
      have r0 := cells_of_block q 0 _ rfl
      have r1 := cells_of_block q 1 _ rfl
      have r2 := cells_of_block q 2 _ rfl
      simp only [Nat.zero_add] at r0 r1 r2
      have kf : ∀ u u' u'', Keep (fun b => b ≠ w.heap.size + 1) W9 (((W9.setCell ⟨w.heap.size + 1, 0, none⟩ u).setCell ⟨w.heap.size + 1, 1, none⟩ u').setCell ⟨w.heap.size + 1, 2, none⟩ u'') := fun u u' u'' => ((Keep.setCell _ _ _ (by simp)).trans (Keep.setCell _ _ _ (by simp))).trans (Keep.setCell _ _ _ (by simp))
      refine bodyPost_ret (v := .agg #[.slice (some ⟨g3, 0, none⟩) p.ins.length c3, .slice (some ⟨g4, 0, none⟩) p.outs.length c4, .slice (some ⟨g8, 0, none⟩) p.rules.length cap8]) (by simp [results, Try.results11, go_sem, r0, r1, r2]) rfl
        ⟨_, _, _, rfl, Xkw9.out.trans ((kf _ _ _).mono fun b _ h => by omega), (XhI9.out.keep (kf _ _ _) (fun b h1 h2 => by omega)).mono (by omega), (XhO9.out.keep (kf _ _ _) (fun b h1 h2 => by omega)).mono (by omega), (XhR9.out.keep (kf _ _ _) (fun b h1 h2 => by omega)).mono (by omega)⟩
end Go.Proofs
