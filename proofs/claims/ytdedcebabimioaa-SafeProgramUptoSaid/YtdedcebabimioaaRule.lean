/- safe.Rule, safe.Check. -/
import Derived.Test.YtdedcebabimioaaProg
import Derived.Test.YtdedcebabimioaaSet
namespace Go.Proofs
open Go.RowKit Go.Ink
set_option linter.unusedVariables false
set_option linter.unusedSimpArgs false
attribute [local go_sem] Oper.semAt_some

/-- a rule's first loose variable -/
def looseOf (r : RuleD) : Option ByteArray := r.names.find? fun x => decide (x ∉ boundOf r.body)
/-- what safe.Rule answers -/
def ruleAns : Option ByteArray → Value
  | none => .tuple #[.string ⟨#[]⟩, .bool true]
  | some x => .tuple #[.string x, .bool false]

/-- what the loop of safe.Rule leans on -/
structure RuleSt (n1 Bs Bb Bm M : Nat) (w : World) (s : List ByteArray) (W : World) : Prop where
  sbox : ∃ u, W.heap[Bs]? = some (.cells #[.string u] 9 (0, 0))
  bbox : ∃ u, W.heap[Bb]? = some (.cells #[.bool u] 4 (0, 0))
  mbox : W.heap[Bm]? = some (.cells #[.map (some M)] 67 (0, 0))
  set : SetIn W M s
  old : Keep (fun k => k < n1) w W
theorem RuleSt.keep {n1 Bs Bb Bm M : Nat} {w : World} {s : List ByteArray} {W W' : World} {C : Nat → Prop} (h : RuleSt n1 Bs Bb Bm M w s W) (hK : Keep C W W')
    (h1 : C Bs) (h2 : C Bb) (h3 : C Bm) (h4 : C M) (hn : ∀ b, b < n1 → C b) : RuleSt n1 Bs Bb Bm M w s W' := by
  obtain ⟨⟨u, a⟩, ⟨u', b⟩, c, d, e⟩ := h
  exact ⟨⟨u, hK.heap a h1⟩, ⟨u', hK.heap b h2⟩, hK.heap c h3, d.keep hK h4, e.trans (hK.mono fun b _ hb => hn b hb)⟩

set_option maxRecDepth 100000 in
set_option maxHeartbeats 2000000 in
theorem rule_any (r : RuleD) (sh sb : Value) (w : World) (hr : RuleIn w.heap.size w sh sb r) (hN : (r.body.flatMap LitD.uses).length ≤ 1073741824) :
    Calls Try.prog 7 #[.agg #[.string r.head.pred, sh, sb]] w fun e w' => e = .returned (ruleAns (looseOf r)) ∧ Keep (fun k => k < w.heap.size) w w' := by
  refine calls_of Try.func7 rfl ?_
  simp only [Try.ntmps7, List.size_toArray, List.length_cons, List.length_nil, Nat.reduceAdd, Nat.reduceSub, Array.replicate_succ, Array.replicate_zero, List.push_toArray, List.append_toArray, List.nil_append, List.cons_append]
  obtain ⟨⟨ah, capH, rfl, hlenh, hcaph, helh⟩, ⟨ab, capB, rfl, hlenb, hcapb, helb⟩⟩ := id hr
  have hmm := @run_makeMap Try.prog
  have Xhr := Lib.hid hr
  have Xhelh := Lib.hid helh
  have Xhelb := Lib.hid helb
  clear hr helh helb
  gi_wp2
  refine ⟨trivial, rfl, callsIn_abs (fun W0 => Keep (fun _ => True) w W0 ∧ W0.heap.size = w.heap.size + 1 + 1 + 1 ∧ W0.heap[w.heap.size]? = some (.cells (ruleCells r (.slice ah r.head.args.length capH) (.slice ab r.body.length capB)).toArray 27 (0, 0)) ∧
     W0.heap[w.heap.size + 1]? = some (.cells #[.string ⟨#[]⟩] 9 (0, 0)) ∧ W0.heap[w.heap.size + 1 + 1]? = some (.cells #[.bool false] 4 (0, 0)))
     ⟨((Keep.alloc _ _ _).trans (Keep.alloc _ _ _)).trans (Keep.alloc _ _ _), by simp, by simp only [alloc_get, World.size_alloc, Nat.add_assoc]; simp [ruleCells], by simp only [alloc_get, World.size_alloc, Nat.add_assoc]; simp [ruleCells], by simp only [alloc_get, World.size_alloc, Nat.add_assoc]; simp [ruleCells]⟩ ?_⟩
  rintro W0 ⟨k0, s0, a1, a2, a3⟩
  have hr0 := Xhr.out.keep (k0.mono fun _ _ _ => trivial)
  refine (callsIn_wide.2 (bound_any w.heap.size _ _ W0 hr0.2 (by omega) hN)).mono ?_
  rintro e W1 ⟨v1, rfl, k1, o1⟩
  have hb1 : (boundOf r.body).length ≤ 1073741824 := by
    refine Nat.le_trans (onceL_len _) (Nat.le_trans ?_ hN)
    have hsub : ∀ l : List LitD, ((l.filter fun L => L.kind == 1).flatMap LitD.uses).length ≤ (l.flatMap LitD.uses).length := by
      intro l
      induction l with
      | nil => simp
      | cons L l ih =>
        by_cases h : (L.kind == 1) = true
        · simp only [List.filter_cons, h, if_true, List.flatMap_cons, List.length_append]; omega
        · simp only [List.filter_cons, h, if_false, List.flatMap_cons, List.length_append, Bool.false_eq_true]; omega
    exact hsub _
  have st1 := own_strs o1 hb1
  have z1 := k1.size
  clear o1
  have Xhr0 := Lib.hid hr0
  have Xk0 := Lib.hid k0
  have Xa1 := Lib.hid a1
  have Xa2 := Lib.hid a2
  have Xa3 := Lib.hid a3
  have Xk1 := Lib.hid k1
  have Xst1 := Lib.hid st1
  have Xhb1 := Lib.hid hb1
  clear hr0 k0 a1 a2 a3 k1 st1 hb1
  gi_wp2
  refine ⟨trivial, rfl, (callsIn_wide.2 (set_any _ _ _ W1 Xst1.out (Nat.le_refl _))).mono ?_⟩
  rintro e W2 ⟨rfl, k2, hS⟩
  have z2 := k2.size
  have b1 := k2.heap (Xk1.out.heap Xa1.out (by omega)) (by omega)
  have b2 := k2.heap (Xk1.out.heap Xa2.out (by omega)) (by omega)
  have b3 := k2.heap (Xk1.out.heap Xa3.out (by omega)) (by omega)
  have c0 := cells_of_block b1 0 _ rfl
  have c1 := cells_of_block b1 1 _ rfl
  have c2 := cells_of_block b1 2 _ rfl
  simp only [Nat.zero_add, Nat.add_zero] at c0 c1 c2
  have kk : Keep (fun k => k < w.heap.size) w W2 := ((Xk0.out.mono fun _ _ _ => trivial).trans (Xk1.out.mono fun b _ h => by omega)).trans (k2.mono fun b _ h => by omega)
  have Xb1 := Lib.hid b1
  have Xb2 := Lib.hid b2
  have Xb3 := Lib.hid b3
  have Xkk := Lib.hid kk
  have Xk2 := Lib.hid k2
  have XhS := Lib.hid hS
  clear b1 b2 b3 kk k2 hS
  have hlt : w.heap.size < W2.heap.size := by omega
  gi_wp2
  refine ⟨trivial, rfl, (callsIn_wide.2 (stands_any r _ _ _ _ _ _ _)).mono ?_⟩
  rintro e w' ⟨rfl, rfl⟩
  gi_wp2
  refine wpIn_abs (fun Wr => Keep (fun _ => True) W2 Wr ∧ Wr.heap.size = W2.heap.size + 1 + 1 ∧ Wr.heap[W2.heap.size]? = some (.cells #[.map (some W1.heap.size)] 67 (0, 0)) ∧
      Wr.heap[W2.heap.size + 1]? = some (.cells (ruleCells r (.slice ah r.head.args.length capH) (.slice ab r.body.length capB)).toArray 27 (0, 0)))
    ⟨(Keep.alloc _ _ _).trans (Keep.alloc _ _ _), by simp, by simp only [alloc_get, World.size_alloc, Nat.add_assoc]; simp [ruleCells], by simp only [alloc_get, World.size_alloc, Nat.add_assoc]; simp [ruleCells]⟩ ?_
  rintro Wr ⟨kW, sW, h1, h2⟩
  have hrW := Xhr.out.keep (w' := Wr) (Xkk.out.trans (kW.mono fun _ _ _ => trivial))
  have hM := SetIn.lt XhS.out
  have hst0 : RuleSt w.heap.size (w.heap.size + 1) (w.heap.size + 1 + 1) W2.heap.size W1.heap.size w (boundOf r.body) Wr := by
    refine ⟨⟨_, kW.heap Xb2.out trivial⟩, ⟨_, kW.heap Xb3.out trivial⟩, h1, ?_, Xkk.out.trans (kW.mono fun _ _ _ => trivial)⟩
    have := XhS.out.keep kW trivial
    rwa [boundOf, onceL_idem] at this
  refine range_outer (gf := 35) (lb := #[.pointer (some ⟨W2.heap.size + 1, 0, none⟩)]) rfl (enters Try.func35 (by kernel_rfl) rfl)
    (stands1_iter w.heap.size (W2.heap.size + 1) Wr r _ _ hrW.1 hrW.2 (by omega) (by omega)) (fun _ => rfl) (fun _ h => h.elim)
    ⟨h2, Keep.refl _ _⟩ (fun X Y hv hK => standsV_keep hv hK (fun k hk => by omega) (by omega))
    (fun k O X => RuleSt w.heap.size (w.heap.size + 1) (w.heap.size + 1 + 1) W2.heap.size W1.heap.size w (boundOf r.body) X ∧ ∀ x, x ∈ r.names.take k → x ∈ boundOf r.body)
    (fun c k O X => IsRet c ∧ Keep (fun k => k < w.heap.size) w X ∧ ∃ x, looseOf r = some x ∧ X.heap[w.heap.size + 1]? = some (.cells #[.string x] 9 (0, 0)) ∧ X.heap[w.heap.size + 1 + 1]? = some (.cells #[.bool false] 4 (0, 0))) ?hI ?hIx ?h0 ?round ?done ?stop
  case hI =>
    rintro k O X Y ⟨h, hh⟩ hK
    exact ⟨h.keep hK (.inl ⟨by omega, fun h => h⟩) (.inl ⟨by omega, fun h => h⟩) (.inl ⟨by omega, fun h => h⟩) (.inl ⟨by omega, fun h => h⟩) (fun b hb => .inl ⟨by omega, fun h => h⟩), hh⟩
  case hIx =>
    rintro c k O X Y ⟨hc, hk, x, h1, h2, h3⟩ hK
    exact ⟨hc, hk.trans (hK.mono fun b _ hb => .inl ⟨by omega, fun h => h⟩), x, h1, hK.heap h2 (.inl ⟨by omega, fun h => h⟩), hK.heap h3 (.inl ⟨by omega, fun h => h⟩)⟩
  case h0 => exact ⟨hst0, by simp⟩
  case round =>
    intro lr k O X hBl hlX hOl hk hI hV hsz
    obtain ⟨s, hs⟩ : ∃ s, (r.stands.getD k default).2 = s := ⟨_, rfl⟩
    have hs' : r.names[k]? = some s := by simp [RuleD.names, ← hs, List.getD, List.getElem?_eq_getElem hk]
    rw [hs]
    clear h1 h2 kW hmm c0 c1 c2 hst0
    have XhI := Lib.hid hI
    have Xhs := Lib.hid hs
    have Xhs' := Lib.hid hs'
    have XhV := Lib.hid hV
    have Xhk := Lib.hid hk
    have XhOl := Lib.hid hOl
    have XhrW := Lib.hid hrW
    clear hI hs hs' hV hk hOl hrW
    gi_wp2
    refine ⟨Keep.refl _ _, fun Y hY hYs hYl => ?_⟩
    have hIY := XhI.out.1.keep hY (by omega) (by omega) (by omega) (by omega) (fun b hb => by omega)
    have hVY := standsV_keep XhV.out hY (fun b hb => by omega) (by omega)
    obtain ⟨⟨us, p1⟩, ⟨ub, p2⟩, p3, p4, p5⟩ := id hIY
    have d2 := box_cell p3
    have hlk := run_lookup_set (P := Try.prog) (T := 67) (K := 9) (E := 4) Try.underlying67 Try.underlying9 (fun _ => by kernel_rfl) p4 s
    have htk : r.names.take (k + 1) = r.names.take k ++ [s] := by rw [List.take_add_one, Xhs'.out]; rfl
    by_cases hin : s ∈ boundOf r.body
    · have hin' : decide (s ∈ boundOf r.body) = true := by simpa using hin
      rw [hin'] at hlk
      have hf : bodyEnd Wr.heap.size X.heap.size (standsV w.heap.size (W2.heap.size + 1) Wr (ruleCells r (.slice ah r.head.args.length capH) (.slice ab r.body.length capB)).toArray) O Y Y
          (fun O' => RuleSt w.heap.size (w.heap.size + 1) (w.heap.size + 1 + 1) W2.heap.size W1.heap.size w (boundOf r.body) Y ∧ ∀ x, x ∈ r.names.take (k + 1) → x ∈ boundOf r.body) :=
        ⟨O, fun _ h => h, fun _ h => .inl h, Keep.refl _ _, hVY, hIY, fun x hx => by
          rw [htk] at hx
          rcases List.mem_append.1 hx with h | h
          · exact XhI.out.2 x h
          · simp at h; subst h; exact hin⟩
      clear hIY hVY p1 p2 p3 p4 p5 htk hin hin' hY hYs hYl
      have Xhf := Lib.hid hf
      clear hf
      gi_wp2
      exact Xhf.out
    · have hin' : decide (s ∈ boundOf r.body) = false := by simpa using hin
      rw [hin'] at hlk
      have hloose : looseOf r = some s := by
        exact find_at (fun x hx => by simpa using XhI.out.2 x hx) Xhs'.out (by simpa using hin)
      have d3 := box_cell p1
      have d3f := box_free p1 0
      have d4 := box_cell p2
      have d4f := box_free p2 0
      have k3 : Keep (fun b => b ≠ w.heap.size + 1 ∧ b ≠ w.heap.size + 1 + 1) Y ((Y.setCell ⟨w.heap.size + 1, 0, none⟩ (.string s)).setCell ⟨w.heap.size + 1 + 1, 0, none⟩ (.bool false)) := (Keep.setCell _ _ _ (by simp)).trans (Keep.setCell _ _ _ (by simp))
      have hf : bodyEnd Wr.heap.size X.heap.size (standsV w.heap.size (W2.heap.size + 1) Wr (ruleCells r (.slice ah r.head.args.length capH) (.slice ab r.body.length capB)).toArray) O Y ((Y.setCell ⟨w.heap.size + 1, 0, none⟩ (.string s)).setCell ⟨w.heap.size + 1 + 1, 0, none⟩ (.bool false))
          (fun O' => IsRet .ret ∧ Keep (fun k => k < w.heap.size) w ((Y.setCell ⟨w.heap.size + 1, 0, none⟩ (.string s)).setCell ⟨w.heap.size + 1 + 1, 0, none⟩ (.bool false)) ∧ ∃ x, looseOf r = some x ∧ ((Y.setCell ⟨w.heap.size + 1, 0, none⟩ (.string s)).setCell ⟨w.heap.size + 1 + 1, 0, none⟩ (.bool false)).heap[w.heap.size + 1]? = some (.cells #[.string x] 9 (0, 0)) ∧
            ((Y.setCell ⟨w.heap.size + 1, 0, none⟩ (.string s)).setCell ⟨w.heap.size + 1 + 1, 0, none⟩ (.bool false)).heap[w.heap.size + 1 + 1]? = some (.cells #[.bool false] 4 (0, 0))) :=
        ⟨O, fun _ h => h, fun _ h => .inl h, k3.mono (fun b _ h => by omega), standsV_keep hVY k3 (fun b hb => by omega) (by omega), rfl, p5.trans (k3.mono fun b _ h => by omega), s, hloose,
          (Keep.setCell (C := fun b => b ≠ w.heap.size + 1 + 1) _ _ _ (by simp)).heap (set_box _ p1) (by omega), set_box _ ((Keep.setCell (C := fun b => b ≠ w.heap.size + 1) _ _ _ (by simp)).heap p2 (by omega))⟩
      have hbs : w.heap.size + 1 < Y.heap.size := heap_lt p1
      clear hIY hVY p1 p2 p3 p4 p5 htk hin hin' hY hYs hYl k3
      have Xhf := Lib.hid hf
      have Xhloose := Lib.hid hloose
      clear hf hloose
      gi_wp2
      exact Xhf.out
  case done =>
    rintro D O W hD hOD hWD hsd ⟨hI, hall⟩ hV
    have hloose : looseOf r = none := by
      unfold looseOf
      rw [List.find?_eq_none]
      intro x hx
      have := hall x (by rw [List.take_of_length_le (by simp [RuleD.names])]; exact hx)
      simpa using this
    obtain ⟨⟨us, p1⟩, ⟨ub, p2⟩, p3, p4, p5⟩ := id hI
    have d3 := box_cell p1
    have d3f := box_free p1 0
    have d4 := box_cell p2
    have d4f := box_free p2 0
    have hbs : w.heap.size + 1 < W.heap.size := heap_lt p1
    clear h1 h2 kW hmm c0 c1 c2 hst0
    have XhI := Lib.hid hI
    have Xp1 := Lib.hid p1
    have Xp2 := Lib.hid p2
    have Xp3 := Lib.hid p3
    have Xp4 := Lib.hid p4
    have Xp5 := Lib.hid p5
    have XhV := Lib.hid hV
    have XhOD := Lib.hid hOD
    have XhWD := Lib.hid hWD
    have XhrW := Lib.hid hrW
    have Xhall := Lib.hid hall
    have Xhloose := Lib.hid hloose
    clear hI p1 p2 p3 p4 p5 hV hOD hWD hrW hall hloose
    gi_wp2
    have k3 : Keep (fun b => b ≠ w.heap.size + 1 ∧ b ≠ w.heap.size + 1 + 1) W ((W.setCell ⟨w.heap.size + 1, 0, none⟩ (.string ⟨#[]⟩)).setCell ⟨w.heap.size + 1 + 1, 0, none⟩ (.bool true)) := (Keep.setCell _ _ _ (by simp)).trans (Keep.setCell _ _ _ (by simp))
    refine leaves_marks [D] _ (by simp) (fun E hE => by simp at hE; subst hE; exact k3.heap XhWD.out (by omega)) (fun w' hK hs => ?_)
    have q1 := box_cell (hK.heap ((Keep.setCell (C := fun b => b ≠ w.heap.size + 1 + 1) _ _ _ (by simp)).heap (set_box (.string ⟨#[]⟩) Xp1.out) (by omega)) (by simp; omega))
    have q2 := box_cell (hK.heap (set_box (.bool true) ((Keep.setCell (C := fun b => b ≠ w.heap.size + 1) _ _ (.string ⟨#[]⟩) (by simp)).heap Xp2.out (by omega))) (by simp; omega))
    refine leaves_nil (v := .tuple #[.string ⟨#[]⟩, .bool true]) (by simp [results, Try.results7, go_sem, q1, q2]) ⟨by rw [Xhloose.out]; rfl, ?_⟩
    exact (Xp5.out.trans (k3.mono fun b _ h => by omega)).trans (hK.mono fun b _ h => by simp; omega)
  case stop =>
    rintro D c k O W hD hOD hWD hsd hk ⟨hret, hK, x, hl, q1, q2⟩ hV
    obtain rfl : c = .ret := hret
    clear h1 h2 kW hmm c0 c1 c2 hst0
    have XhK := Lib.hid hK
    have Xq1 := Lib.hid q1
    have Xq2 := Lib.hid q2
    have XhV := Lib.hid hV
    have XhOD := Lib.hid hOD
    have XhWD := Lib.hid hWD
    have XhrW := Lib.hid hrW
    have Xhl := Lib.hid hl
    clear hK q1 q2 hV hOD hWD hrW hl
    gi_wp2
    refine leaves_marks [D] _ (by simp) (fun E hE => by simp at hE; subst hE; exact XhWD.out) (fun w' hK hs => ?_)
    have q1 := box_cell (hK.heap Xq1.out (by simp; omega))
    have q2 := box_cell (hK.heap Xq2.out (by simp; omega))
    refine leaves_nil (v := .tuple #[.string x, .bool false]) (by simp [results, Try.results7, go_sem, q1, q2]) ⟨by rw [Xhl.out]; rfl, ?_⟩
    exact XhK.out.trans (hK.mono fun b _ h => by simp; omega)

/-- a rule in three cells -/
def RuleE (n : Nat) (w : World) (b o : Nat) (r : RuleD) : Prop := ∃ sh sb, CellsE w b o (ruleCells r sh sb) ∧ RuleIn n w sh sb r
abbrev RulesIn (n : Nat) (w : World) (v : Value) (rs : List RuleD) : Prop := SliceIn n w 3 (RuleE n) v rs
theorem RuleE.keep {n : Nat} {w w' : World} {b o : Nat} {r : RuleD} (h : RuleE n w b o r) (hb : b < n) (hK : Keep (fun k => k < n) w w') : RuleE n w' b o r := by
  obtain ⟨sh, sb, hc, hr⟩ := h
  exact ⟨sh, sb, hc.keep hb hK, hr.keep hK⟩
theorem rules_keep {n : Nat} {w w' : World} {v : Value} {rs : List RuleD} (h : RulesIn n w v rs) (hK : Keep (fun k => k < n) w w') : RulesIn n w' v rs := h.mono fun _ _ _ hb h => h.keep hb hK

/-- what a rule may hold at the most -/
def RuleFits (r : RuleD) : Prop := (r.body.flatMap LitD.uses).length ≤ 1073741824

/-- what safe.Check answers -/
def checkFrom : List RuleD → Nat → Value
  | [], _ => .tuple #[.int .i64 0, .string ⟨#[]⟩, .int .i64 0]
  | r :: rs, i => match looseOf r with
    | none => checkFrom rs (i + 1)
    | some x => .tuple #[.int .i64 i, .string x, .int .i64 14]

theorem checkFrom_none {r : RuleD} (rs : List RuleD) (i : Nat) (h : looseOf r = none) : checkFrom (r :: rs) i = checkFrom rs (i + 1) := by simp [checkFrom, h]
theorem checkFrom_some {r : RuleD} (rs : List RuleD) (i : Nat) {x : ByteArray} (h : looseOf r = some x) : checkFrom (r :: rs) i = .tuple #[.int .i64 i, .string x, .int .i64 14] := by simp [checkFrom, h]

set_option maxRecDepth 100000 in
set_option maxHeartbeats 1000000 in
theorem check_any (n0 : Nat) (si so sr : Value) (rs : List RuleD) (w : World) (hr : RulesIn n0 w sr rs) (hn : n0 ≤ w.heap.size) (hf : ∀ r, r ∈ rs → RuleFits r) (h1 : si.oneCell' = true) (h2 : so.oneCell' = true) :
    Calls Try.prog 10 #[.agg #[si, so, sr]] w fun e w' => e = .returned (checkFrom rs 0) ∧ Keep (fun k => k < w.heap.size) w w' := by
  obtain ⟨a, cap, rfl, hlen, hcap, hel⟩ := id hr
  have Xhr := Lib.hid hr
  have Xhel := Lib.hid hel
  have Xhf := Lib.hid hf
  clear hr hel hf
  refine calls_of0 Try.func10 rfl ?_
  simp only [Try.ntmps10, List.size_toArray, List.length_cons, List.length_nil, Nat.reduceAdd, Nat.reduceSub, Array.replicate_succ, Array.replicate_zero, List.push_toArray, List.append_toArray, List.nil_append, List.cons_append]
  gi_wp2
  gi_loopw [12] (fun i wr => ∃ k : Nat, k ≤ rs.length ∧ i = .int .i64 k ∧ Keep (fun j => j < w.heap.size) w wr ∧ checkFrom (rs.drop k) k = checkFrom rs 0) (fun i _ => rs.length - (intOf i).toNat)
  case atStart => exact ⟨0, by omega, rfl, Keep.alloc _ _ _, rfl⟩
  case round =>
    obtain ⟨k, hk, rfl, hK, hC⟩ := hrel
    have hws := hK.size
    by_cases hlt : k < rs.length
    · obtain ⟨r, hrk⟩ : ∃ r, rs[k]? = some r := ⟨_, List.getElem?_eq_getElem hlt⟩
      obtain ⟨b, off, rfl, hb, sh, sb, hcl, hri⟩ := Xhel.out k r hrk
      have hdrop : rs.drop k = r :: rs.drop (k + 1) := by
        have he := (List.getElem?_eq_some_iff.1 hrk).2
        rw [← he]; exact List.drop_eq_getElem_cons hlt
      have hfr := Xhf.out r (List.mem_of_getElem? hrk)
      have g : ∀ j v, (ruleCells r sh sb)[j]? = some v → wr.cell? ⟨b, off + k * 3 + j, none⟩ = some v := fun j v h => hK.cell (hcl j v h) (show b < w.heap.size by omega)
      have hri2 := hri.keep (w' := wr) (hK.mono fun b _ h => by omega)
      obtain ⟨⟨ah, capH, rfl, hlenh, hcaph, helh⟩, ⟨ab, capB, rfl, hlenb, hcapb, helb⟩⟩ := id hri
      have d0 := g 0 _ rfl
      have d1 := g 1 _ rfl
      have d2 := g 2 _ rfl
      simp only [Nat.add_zero] at d0
      have hbw : b < wr.heap.size := by omega
      have kA : Keep (fun _ => True) wr (wr.alloc (.cells (ruleCells r (.slice ah r.head.args.length capH) (.slice ab r.body.length capB)).toArray 27)) := Keep.alloc _ _ _
      have hri3 := (hri2.keep (kA.mono fun _ _ _ => trivial)).wider (show n0 ≤ (wr.alloc (.cells (ruleCells r (.slice ah r.head.args.length capH) (.slice ab r.body.length capB)).toArray 27)).heap.size by simp; omega)
      rw [hdrop] at hC
      clear g hcl helh helb hri hri2 hrk hdrop
      have XhK := Lib.hid hK
      have XhC := Lib.hid hC
      have Xhfr := Lib.hid hfr
      have Xhri3 := Lib.hid hri3
      have XkA := Lib.hid kA
      clear hK hC hfr hri3 kA
      gi_wp2
      refine ⟨trivial, rfl, (callsIn_wide.2 (rule_any r _ _ _ Xhri3.out Xhfr.out)).mono ?_⟩
      rintro e w' ⟨rfl, hk'⟩
      have hK' : Keep (fun j => j < w.heap.size) w w' := (XhK.out.trans (Keep.alloc _ _ _)).trans (hk'.mono fun b _ h => by simp; omega)
      have hC2 := XhC.out
      clear hk'
      cases hl : looseOf r with
      | none =>
        rw [checkFrom_none _ _ hl] at hC2
        simp only [ruleAns]
        clear hl d0 d1 d2
        have XhC2 := Lib.hid hC2
        have XhK' := Lib.hid hK'
        clear hC2 hK'
        gi_wp2
        go_roundw
        case rel => exact ⟨k + 1, by omega, by go_num, XhK'.out, XhC2.out⟩
        case measure => simp [intOf]; omega
      | some x =>
        rw [checkFrom_some _ _ hl] at hC2
        simp only [ruleAns]
        clear hl d0 d1 d2
        have XhC2 := Lib.hid hC2
        have XhK' := Lib.hid hK'
        clear hC2 hK'
        gi_wp2
        go_ret3
        exact ⟨by rw [← XhC2.out]; rfl, XhK'.out⟩
    · obtain rfl : k = rs.length := by omega
      rw [List.drop_length] at hC
      have XhK := Lib.hid hK
      have XhC := Lib.hid hC
      clear hK hC
      gi_wp2
      go_ret3
      exact ⟨by rw [← XhC.out]; rfl, XhK.out⟩

end Go.Proofs
