/- The law SafeWay: its walk. -/
import Derived.Test.YtdedcebabimioaaProg
import Derived.Test.YtdedcebabimioaaKnown
import Derived.Test.YtdedcebabimioaaVars
import Derived.Test.YtdedcebabimioaaWayLaw
import Derived.Test.YtdedcebabimioaaWay
import Derived.Test.YtdedcebabimioaaSmall
import Derived.Test.YtdedcebabimioaaReadyB
import Derived.Test.YtdedcebabimioaaMapped
import Derived.Test.YtdedcebabimioaaCopyR
namespace Go.Proofs
open Go.RowKit Go.Ink
set_option linter.unusedVariables false
set_option linter.unusedSimpArgs false
attribute [local go_sem] Oper.semAt_some

/-- the rule in memory, and the names bound -/
structure OneR (r : RuleD) (sh sb : Value) (w : World) (W : World) : Prop where
  b : W.heap[w.heap.size]? = some (.cells #[.string r.head.pred, sh, sb] 27 (0, 0))
  r : RuleIn w.heap.size W sh sb r
  old : Keep (fun k => k < w.heap.size) w W
  lw : w.heap.size < W.heap.size
theorem OneR.keep {r : RuleD} {sh sb : Value} {w W W' : World} (h : OneR r sh sb w W) {m : Nat} (hK : Keep (fun k => k < m) W W') (hm : w.heap.size < m) : OneR r sh sb w W' :=
  ⟨hK.heap h.b hm, h.r.keep (hK.mono fun b _ hb => by omega), h.old.trans (hK.mono fun b _ hb => by omega), Nat.lt_of_lt_of_le h.lw hK.size⟩
theorem OneR.all {r : RuleD} {sh sb : Value} {w W W' : World} (h : OneR r sh sb w W) (hK : Keep (fun _ => True) W W') : OneR r sh sb w W' :=
  h.keep (m := w.heap.size + 1) (hK.mono fun _ _ _ => trivial) (by omega)
theorem OneR.first {r : RuleD} {sh sb : Value} {w W : World} (h : OneR r sh sb w W) : RuleIn W.heap.size W sh sb r := h.r.wider (Nat.le_of_lt h.lw)
theorem OneR.cells {r : RuleD} {sh sb : Value} {w W : World} (h : OneR r sh sb w W) :
    W.cell? ⟨w.heap.size, 0, none⟩ = some (.string r.head.pred) ∧ W.cell? ⟨w.heap.size, 1, none⟩ = some sh ∧ W.cell? ⟨w.heap.size, 2, none⟩ = some sb := by
  have a0 := cells_of_block h.b 0 _ rfl
  have a1 := cells_of_block h.b 1 _ rfl
  have a2 := cells_of_block h.b 2 _ rfl
  simp only [Nat.zero_add] at a0 a1 a2
  exact ⟨a0, a1, a2⟩
theorem strs_stay2 {n : Nat} {w w' : World} {v : Value} {ss : List ByteArray} (h : StrsIn n w v ss) {m : Nat} (hK : Keep (fun k => k < m) w w') (hm : n ≤ m) : StrsIn n w' v ss :=
  strs_keep h (hK.mono fun b _ hb => by omega)

theorem Calls_abs {P : Program} {f : FuncId} {args : Array Value} {R : Ending → World → Prop} {w : World} (G : World → Prop) (h : G w) (k : ∀ W, G W → Calls P f args W R) : Calls P f args w R := k w h

theorem own_nats2 {w : World} {base : Nat} {e : TypeId} {v : Value} {n : Nat} {ss : List Nat} (h : w.ownsRow base e 1 v n (ss.map fun i : Nat => Value.int .i64 (i : Int))) (hb : ss.length ≤ 1073741824) : IntsIn w.heap.size w v (ss.map fun i : Nat => (i : Int)) :=
  own_ints (by rw [List.map_map]; exact h) (by simpa using hb)

set_option maxRecDepth 100000 in
set_option maxHeartbeats 20000000 in
theorem safeWay_walk (r : RuleD) (sh sb : Value) (w : World) (hr : RuleIn w.heap.size w sh sb r) (hN : r.stands.length ≤ 1073741824) (hN2 : RuleFits r) (hlen : r.body.length ≤ 268435456) :
    Calls Try.prog 6 #[.agg #[.string r.head.pred, sh, sb]] w fun e w' => e = .returned (.bool true) ∧ Keep (fun k => k < w.heap.size) w w' := by
  obtain ⟨⟨ah, capH, rfl, hlenh, hcaph, helh⟩, ⟨ab, capB, rfl, hlenb, hcapb, helb⟩⟩ := id hr
  have hlb : (boundOf r.body).length ≤ 1073741824 := Nat.le_trans (onceL_len _) (Nat.le_trans (bound_flat2 r.body) hN2)
  have hln : (onceL r.names).length ≤ 1073741824 := by
    refine Nat.le_trans (onceL_len _) ?_
    simpa [RuleD.names] using hN
  have hN3 : ([r].map fun r => r.stands.length).sum ≤ 1073741824 := by simpa using hN
  obtain ⟨i0, hi, hz0, hz1, hz2⟩ := info_parts info_bool
  have hmk : ∀ u : World, (Instr.makeSlice 28 (.int .i64 (r.body.length : Int)) (.int .i64 (r.body.length : Int))).run Try.prog u =
      .ok (.slice (some ⟨u.heap.size, 0, none⟩) r.body.length r.body.length) (u.alloc (.cells (madeCells #[.bool false] r.body.length) 4)) := fun u => by
    have h := run_make (P := Try.prog) u 28 4 i0 (.bool false) Try.underlying28 hi hz0 .i64 .i64 (r.body.length : Int) (r.body.length : Int) (by omega) (Int.le_refl _) (by rw [hz2]; omega) (by omega)
    simpa [hz1, Value.cells] using h
  clear hi hz0 hz1 hz2
  have Xhr := Lib.hid hr
  have Xhelh := Lib.hid helh
  have Xhelb := Lib.hid helb
  have XhN := Lib.hid hN
  have XhN2 := Lib.hid hN2
  have Xhlb := Lib.hid hlb
  have Xhln := Lib.hid hln
  have XhN3 := Lib.hid hN3
  have Xhmk := Lib.hid hmk
  clear hr helh helb hN hN2 hlb hln hN3 hmk
  go_enter Try.func6, Try.ntmps6
  go_wp2_with fail
  refine (bound_any w.heap.size (.slice ab r.body.length capB) r.body _ (lits_keep Xhr.out.2 (Keep.alloc _ _ _)) (by simp) XhN2.out).mono ?_
  rintro e W1 ⟨v3, rfl, k1, ho1⟩
  have z1 := k1.size
  simp only [World.size_alloc] at z1
  have hO1 : OneR r (.slice ah r.head.args.length capH) (.slice ab r.body.length capB) w W1 :=
    ⟨k1.heap (new_block w _) (by simp), Xhr.out.keep ((Keep.alloc _ _ _).trans (k1.mono fun b _ h => by simp; omega)), (Keep.alloc _ _ _).trans (k1.mono fun b _ h => by simp; omega), by omega⟩
  have hB1 := own_strs ho1 Xhlb.out
  obtain ⟨av3, cv3, rfl⟩ := own_form ho1
  clear k1 ho1
  obtain ⟨d0, d1, d2⟩ := hO1.cells
  have XhO1 := Lib.hid hO1
  have XhB1 := Lib.hid hB1
  clear hO1 hB1
  have lw1 := XhO1.out.lw
  go_wp2_with fail
  refine Calls_abs (fun W2 => Keep (fun _ => True) W1 W2 ∧ W2.heap.size = W1.heap.size + 1 ∧ W2.heap[W1.heap.size]? = some (.cells #[.string r.head.pred, .slice ah r.head.args.length capH, .slice ab r.body.length capB] 27 (0, 0))) ⟨Keep.alloc _ _ _, by simp, new_block _ _⟩ ?_
  rintro W2 ⟨k2, s2, n2⟩
  have hO2 := XhO1.out.all k2
  have hB2 := strs_keep XhB1.out (k2.mono fun _ _ _ => trivial)
  have hR2 : RulesIn W2.heap.size W2 (.slice (some ⟨W1.heap.size, 0, none⟩) 1 1) [r] := by
    refine ⟨_, 1, rfl, by simp, by simp [maxLen], fun j x hj => ⟨W1.heap.size, 0, rfl, by omega, ?_⟩⟩
    cases j with
    | zero => simp at hj; subst hj; exact ⟨_, _, cells_of_block n2, hO2.first⟩
    | succ j => simp at hj
  clear k2 n2 d0 d1 d2 XhO1 XhB1
  refine (faults_any _ _ _ [r] W2 hR2 (fun r' h' => by simp at h'; subst h'; exact XhN2.out) XhN3.out rfl rfl).mono ?_
  rintro e W3 ⟨v4, rfl, k3, ho4⟩
  have z3 := k3.size
  have hO3 := hO2.keep k3 (by omega)
  have hB3 := strs_stay2 hB2 k3 (by omega)
  obtain ⟨a4, c4, rfl⟩ := own_form ho4
  obtain ⟨d0, d1, d2⟩ := hO3.cells
  have lw3 := hO3.lw
  clear hO2 hB2 hR2 k3
  have XhO3 := Lib.hid hO3
  have XhB3 := Lib.hid hB3
  have Xho4 := Lib.hid ho4
  clear hO3 hB3 ho4
  go_wp2_with fail
  refine (rule_any r (.slice ah r.head.args.length capH) (.slice ab r.body.length capB) _ XhO3.out.first XhN2.out).mono ?_
  rintro e W4 ⟨rfl, k4⟩
  have z4 := k4.size
  have hO4 := XhO3.out.keep k4 lw3
  have hB4 := strs_stay2 XhB3.out k4 (by omega)
  have ho44 := own_kept Xho4.out k4 (fun b hb => (World.ownsRow.lt Xho4.out b hb).2)
  clear d0 d1 d2 k4 XhO3 XhB3 Xho4
  obtain ⟨d0, d1, d2⟩ := hO4.cells
  have lw4 := hO4.lw
  have XhO4 := Lib.hid hO4
  have XhB4 := Lib.hid hB4
  have Xho44 := Lib.hid ho44
  clear hO4 hB4 ho44
  have hall := loose_all r
  obtain ⟨n4, hn4⟩ : ∃ n4, (faultsOf [r]).length = n4 := ⟨_, rfl⟩
  have ho45 := Xho44.out
  rw [hn4] at ho45
  clear Xho44
  rw [hn4]
  cases hloo : looseOf r
  case' none =>
    rw [hloo] at hall
    rw [faults_none hloo] at hn4
    simp at hn4
    subst hn4
    have hnm : True := trivial
    have hnb : True := trivial
    have hxx : True := trivial
    have h40 : True := trivial
    have hc4 : Keep (fun _ => True) W4 W4 ∧ True := ⟨Keep.refl _ _, trivial⟩
  case' some x =>
    rw [hloo] at hall
    obtain ⟨pos, rest, hfs⟩ := faults_some hloo
    have hnm := (loose_some hloo).2
    have hnb := (loose_some hloo).1
    have hxx : (x.toList == x.toList) = true := str_same rfl
    rw [hfs] at ho45 hn4
    simp only [List.length_cons] at hn4
    have h40 : 0 < n4 := by omega
    have h40e : ((n4 : Int) == 0) = false := by simp; omega
    have h40p : (0 : Int) < n4 := by omega
    have hc4 : ∃ g, a4 = some ⟨g, 0, none⟩ ∧ g < W4.heap.size ∧ W4.cell? ⟨g, 2, none⟩ = some (.string x) := by
      rcases ho45.2 with ⟨h, h'⟩ | ⟨g, cap, cur, h, hbg, hg, _⟩
      · omega
      · cases h
        exact ⟨g, rfl, heap_lt hg, own_elem ho45 2 _ rfl⟩
    obtain ⟨g4, rfl, hg4, hc4⟩ := hc4
    clear hfs hn4
  all_goals
    simp only [ruleAns]
    simp only [Option.isNone_none, Option.isNone_some] at hall
    have Xho45 := Lib.hid ho45
    have Xhall := Lib.hid hall
    have Xhnm := Lib.hid hnm
    have Xhnb := Lib.hid hnb
    clear ho45 hall hnm hnb
    clear hloo
    go_wp2_with fail
    refine (vars_any r (.slice ah r.head.args.length capH) (.slice ab r.body.length capB) _ XhO4.out.first XhN.out).mono ?_
    rintro e W5 ⟨v7, rfl, k5, ho7⟩
    have z5 := k5.size
    have hO5 := XhO4.out.keep k5 lw4
    have hB5 := strs_stay2 XhB4.out k5 (by omega)
    have hV5 := own_strs ho7 Xhln.out
    obtain ⟨a7, c7, rfl⟩ := own_form ho7
    first | (have hc5 := k5.cell hc4 hg4; have hg5 : g4 < W5.heap.size := by omega) | (have hc5 := trivial; have hg5 := trivial)
    clear d0 d1 d2 k5 ho7 XhO4 XhB4 Xho45 hc4
    obtain ⟨d0, d1, d2⟩ := hO5.cells
    have lw5 := hO5.lw
    obtain ⟨q7, p7, hq7, _, hcc7, g7⟩ := id hV5
    cases hq7
    have XhO5 := Lib.hid hO5
    have XhB5 := Lib.hid hB5
    have XhV5 := Lib.hid hV5
    have Xhc5 := Lib.hid hc5
    have Xhg5 := Lib.hid hg5
    have Xg7 := Lib.hid g7
    clear hO5 hB5 hV5 hc5 hg5 g7
    go_wp2_with fail
    go_loopw [8, 9] (fun al ix wr => ∃ k : Nat, k ≤ (onceL r.names).length ∧ ix = .int .i64 k ∧ al = .bool (((onceL r.names).take k).all fun x => decide (x ∈ boundOf r.body)) ∧ Keep (fun _ => True) W5 wr) (fun _ i _ => (onceL r.names).length - (intOf i).toNat)
    case atStart => exact ⟨0, by omega, rfl, rfl, Keep.refl _ _⟩
    case round =>
      obtain ⟨k, hk, rfl, rfl, hK⟩ := hrel
      by_cases hlt : k < (onceL r.names).length
      · obtain ⟨y, hy⟩ : ∃ y, (onceL r.names)[k]? = some y := ⟨_, List.getElem?_eq_getElem hlt⟩
        obtain ⟨ba, oa, rfl, hba, hxa⟩ := Xg7.out k y hy
        have f1 := hK.cell hxa trivial
        simp only [Nat.mul_one] at f1
        have hszk := hK.size
        have hb1 : ba < wr.heap.size := by omega
        have hlt1 : (k : Int) < (onceL r.names).length := by omega
        have hk0 : (0 : Int) ≤ k := by omega
        have hnext : ((onceL r.names).take (k + 1)).all (fun x => decide (x ∈ boundOf r.body)) = (((onceL r.names).take k).all (fun x => decide (x ∈ boundOf r.body)) && decide (y ∈ boundOf r.body)) := by
          rw [List.take_add_one, hy, List.all_append]; simp
        have hBr := strs_keep XhB5.out (hK.mono fun _ _ _ => trivial)
        clear hxa hy
        cases hb : ((onceL r.names).take k).all (fun x => decide (x ∈ boundOf r.body)) with
        | true =>
          rw [hb, Bool.true_and] at hnext
          clear hb
          have XhK := Lib.hid hK
          have Xhnext := Lib.hid hnext
          have XhBr := Lib.hid hBr
          clear hK hnext hBr
          go_wp2_with fail
          refine (in_any W1.heap.size _ (boundOf r.body) y _ XhBr.out (by omega)).mono ?_
          rintro e W6 ⟨rfl, k6⟩
          have hK6 := XhK.out.trans k6
          clear k6
          have XhK6 := Lib.hid hK6
          clear hK6
          go_wp2_with fail
          go_roundw
          case rel => exact ⟨k + 1, by omega, by go_num, by rw [Xhnext.out], XhK6.out⟩
          case measure => simp [intOf]; omega
        | false =>
          rw [hb, Bool.false_and] at hnext
          clear hb
          have XhK := Lib.hid hK
          have Xhnext := Lib.hid hnext
          have XhBr := Lib.hid hBr
          clear hK hnext hBr
          go_wp2_with fail
          go_roundw
          case rel => exact ⟨k + 1, by omega, by go_num, by rw [Xhnext.out], XhK.out⟩
          case measure => simp [intOf]; omega
      · obtain rfl : k = (onceL r.names).length := by omega
        rw [List.take_length, Xhall.out]
        have hO6 := XhO5.out.all hK
        have hB6 := strs_keep XhB5.out (hK.mono fun _ _ _ => trivial)
        have hV6 := strs_keep XhV5.out (hK.mono fun _ _ _ => trivial)
        first | (have hc6 := hK.cell Xhc5.out trivial; have hg6 : g4 < wr.heap.size := Nat.lt_of_lt_of_le Xhg5.out hK.size) | (have hc6 := trivial; have hg6 := trivial)
        have hszk := hK.size
        clear hK
        have XhO6 := Lib.hid hO6
        have XhB6 := Lib.hid hB6
        have XhV6 := Lib.hid hV6
        clear hO6 hB6 hV6
        go_wp2_with fail
        first
          | (refine (in_any W1.heap.size _ (boundOf r.body) x _ XhB6.out (by omega)).mono ?_
             rintro e W7 ⟨rfl, k7⟩
             rw [decide_eq_false Xhnb.out]
             have hV7 := strs_keep XhV6.out (k7.mono fun _ _ _ => trivial)
             have z7 := k7.size
             have XhV7 := Lib.hid hV7
             have Xk7 := Lib.hid k7
             clear hV7 k7
             go_wp2_with fail
             refine (in_any W5.heap.size _ (onceL r.names) x _ XhV7.out (by omega)).mono ?_
             rintro e W77 ⟨rfl, k77⟩
             rw [decide_eq_true Xhnm.out]
             have hk8 := Xk7.out.trans k77
             have Xhk8 := Lib.hid hk8
             clear hk8
             clear k77
             go_wp2_with fail
             have hk8 := Xhk8.out)
          | (have hk8 := Keep.refl (fun _ => True) wr)
        refine wp_abs (fun W => Keep (fun _ => True) wr W) hk8 ?_
        clear hk8
        rintro W8 k8
        have hO8 := XhO6.out.all k8
        have hB8 := strs_keep XhB6.out (k8.mono fun _ _ _ => trivial)
        have z8 := k8.size
        clear d0 d1 d2 k8
        obtain ⟨d0, d1, d2⟩ := hO8.cells
        have lw8 := hO8.lw
        clear XhO5 XhB5 XhV5 XhV6 XhO6 XhB6 Xg7
        have XhO8 := Lib.hid hO8
        have XhB8 := Lib.hid hB8
        clear hO8 hB8
        go_wp2_with fail
        go_loopw [10, 11, 12] (fun cn mn ix wr => ∃ k : Nat, k ≤ r.body.length ∧ ix = .int .i64 k ∧ cn = .bool (canTo r.body k) ∧ mn = .int .i64 (manyTo r.body k) ∧ Keep (fun k => k < W8.heap.size) W8 wr) (fun _ _ i _ => r.body.length - (intOf i).toNat)
        case atStart => exact ⟨0, by omega, rfl, rfl, rfl, Keep.refl _ _⟩
        case round =>
          obtain ⟨k, hk, rfl, rfl, rfl, hK⟩ := hrel
          have hO9 := XhO8.out.keep hK lw8
          clear d0 d1 d2
          obtain ⟨d0, d1, d2⟩ := hO9.cells
          have lw9 := hO9.lw
          have hszk := hK.size
          by_cases hlt : k < r.body.length
          · obtain ⟨L, hL⟩ : ∃ L, r.body[k]? = some L := ⟨_, List.getElem?_eq_getElem hlt⟩
            have hcs := canTo_succ hL
            have hms := manyTo_succ hL
            have hmb : manyTo r.body k ≤ 268435456 := by
              refine Nat.le_trans List.countP_le_length ?_
              rw [List.length_take]; omega
            obtain ⟨b, off, rfl, hb, sa, hcl, hts⟩ := Xhelb.out k L hL
            have g : ∀ j v, (litCells L sa)[j]? = some v → wr.cell? ⟨b, off + k * 7 + j, none⟩ = some v := fun j v h => hO9.old.cell (hcl j v h) hb
            obtain ⟨aa, caps, rfl, hlens, hcaps, hels⟩ := id hts
            have f0 := g 0 _ rfl
            have f1 := g 1 _ rfl
            have f2 := g 2 _ rfl
            have f3 := g 3 _ rfl
            have f4 := g 4 _ rfl
            have f5 := g 5 _ rfl
            have f6 := g 6 _ rfl
            simp only [Nat.add_zero] at f0
            have hbW : b < wr.heap.size := by omega
            have htsr := terms_keep hts hO9.old
            have hBr := strs_stay2 XhB8.out hK (by omega)
            by_cases hkd : litKind L = true
            · have h13 : ¬ L.kind < 1 ∧ ¬ 3 < L.kind := by
                simp [litKind] at hkd
                omega
              obtain ⟨h1, h3⟩ := h13
              rw [hkd] at hcs hms
              simp only [Bool.not_true, Bool.false_or, if_true] at hcs hms
              clear hkd g hcl hts hels hL
              cases hcn : canTo r.body k with
              | true =>
                rw [hcn, Bool.true_and] at hcs
                clear hcn
                have Xhcs := Lib.hid hcs
                have Xhms := Lib.hid hms
                have XhO9 := Lib.hid hO9
                have XhK := Lib.hid hK
                have Xhtsr := Lib.hid htsr
                have XhBr := Lib.hid hBr
                clear hcs hms hO9 hK htsr hBr
                go_wp2_with fail
                refine (readyB_any W1.heap.size L _ _ (boundOf r.body) _ (terms_wider Xhtsr.out (by omega)) XhBr.out (by omega)).mono ?_
                rintro e W9 ⟨rfl, k9⟩
                have hK9 := XhK.out.trans (k9.mono fun b _ h => by omega)
                clear k9
                have XhK9 := Lib.hid hK9
                clear hK9
                go_wp2_with fail
                go_roundw
                case rel => exact ⟨k + 1, by omega, by go_num, by rw [Xhcs.out], by rw [Xhms.out]; go_num, XhK9.out⟩
                case measure => simp [intOf]; omega
              | false =>
                rw [hcn, Bool.false_and] at hcs
                clear hcn
                have Xhcs := Lib.hid hcs
                have Xhms := Lib.hid hms
                have XhO9 := Lib.hid hO9
                have XhK := Lib.hid hK
                have Xhtsr := Lib.hid htsr
                have XhBr := Lib.hid hBr
                clear hcs hms hO9 hK htsr hBr
                go_wp2_with fail
                go_roundw
                case rel => exact ⟨k + 1, by omega, by go_num, by rw [Xhcs.out], by rw [Xhms.out]; go_num, XhK.out⟩
                case measure => simp [intOf]; omega
            · have hkf : litKind L = false := by simpa using hkd
              have h13 : L.kind < 1 ∨ (¬ L.kind < 1 ∧ 3 < L.kind) := by
                simp [litKind] at hkd
                omega
              rw [hkf] at hcs hms
              simp only [Bool.not_false, Bool.true_or, Bool.and_true, if_false, Nat.add_zero, Bool.false_eq_true] at hcs hms
              clear hkd hkf g hcl hts hels hL
              have Xhcs := Lib.hid hcs
              have Xhms := Lib.hid hms
              have XhO9 := Lib.hid hO9
              have XhK := Lib.hid hK
              have Xhtsr := Lib.hid htsr
              have XhBr := Lib.hid hBr
              clear hcs hms hO9 hK htsr hBr
              rcases h13 with h1 | ⟨h1, h3⟩
              all_goals
                go_wp2_with fail
                go_roundw
                case rel => exact ⟨k + 1, by omega, by go_num, by rw [Xhcs.out], by rw [Xhms.out], XhK.out⟩
                case measure => simp [intOf]; omega
          · obtain rfl : k = r.body.length := by omega
            obtain ⟨hw1, hw2, hw3, hw4, hw5, hw6⟩ := way_law r.body
            have hBr := strs_stay2 XhB8.out hK (by omega)
            rw [← hw1]
            clear hw1 hK XhB8 XhO8
            have XhO9 := Lib.hid hO9
            have XhBr := Lib.hid hBr
            have Xhw2 := Lib.hid hw2
            have Xhw3 := Lib.hid hw3
            have Xhw4 := Lib.hid hw4
            have Xhw5 := Lib.hid hw5
            have Xhw6 := Lib.hid hw6
            clear hO9 hBr hw2 hw3 hw4 hw5 hw6
            go_wp2_with fail
            refine (way_any r (.slice ah r.head.args.length capH) (.slice ab r.body.length capB) _ XhO9.out.first hlen).mono ?_
            rintro e W10 ⟨v14, rfl, k10, ho10⟩
            have z10 := k10.size
            have hO10 := XhO9.out.keep k10 lw9
            clear d0 d1 d2
            obtain ⟨d0, d1, d2⟩ := hO10.cells
            have lw10 := hO10.lw
            have hB10 := strs_stay2 XhBr.out k10 (by omega)
            obtain ⟨a14, c14, rfl⟩ := own_form ho10
            have hwl : (wayD r.body).1.length ≤ r.body.length := wayD_len r.body
            have hI10 := own_nats2 ho10 (by omega)
            obtain ⟨ws, hws⟩ : ∃ ws, (wayD r.body).1 = ws := ⟨_, rfl⟩
            have hw2 := Xhw2.out
            have hw3 := Xhw3.out
            have hw4 := Xhw4.out
            have hw5 := Xhw5.out
            have hw6 := Xhw6.out
            rw [hws] at hwl hI10 hw2 hw3 hw4 hw5 hw6
            rw [hws]
            clear Xhw2 Xhw3 Xhw4 Xhw5 Xhw6 ho10 k10 hws XhO9 XhBr
            cases hwy : (wayD r.body).2 with
            | true =>
              have hm := hw3 hwy
              rw [← hm]
              clear hw2 hw3 hwy
              have XhO10 := Lib.hid hO10
              have XhB10 := Lib.hid hB10
              have XhI10 := Lib.hid hI10
              have Xhw4 := Lib.hid hw4
              have Xhw5 := Lib.hid hw5
              have Xhw6 := Lib.hid hw6
              have Xhm := Lib.hid hm
              clear hO10 hB10 hI10 hw4 hw5 hw6 hm
              have hmk := Xhmk.out
              go_wp2_with fail
              refine wp_abs (fun W => Keep (fun _ => True) W10 W ∧ W.heap[W10.heap.size]? = some (.cells ((List.replicate r.body.length false).map Value.bool).toArray 4 (0, 0)) ∧ W.heap.size = W10.heap.size + 1) ⟨Keep.alloc _ _ _, by rw [made_eq]; exact new_block _ _, by simp⟩ ?_
              rintro W11 ⟨k11, n11, s11⟩
              have k11' : Keep (fun k => k < W10.heap.size) W10 W11 := k11.mono fun _ _ _ => trivial
              clear k11 hmk d0 d1 d2
              have Xn11 := Lib.hid n11
              have Xk11' := Lib.hid k11'
              clear n11 k11'
              go_loopw [16, 18] (fun v16 ix wr => ∃ (j : Nat) (ps : List (LitD × Value)) (tk : List Bool), j ≤ ws.length ∧ ix = .int .i64 j ∧ wr.heap[W10.heap.size]? = some (.cells (tk.map Value.bool).toArray 4 (0, 0)) ∧ tk.length = r.body.length ∧ (∀ q, q < r.body.length → (tk.getD q true = true ↔ q ∈ ws.take j)) ∧
                 Keep (fun k => k < W10.heap.size) W10 wr ∧ wr.ownsRow (W10.heap.size + 1) 37 7 v16 ps.length (ps.flatMap fun p => litCells p.1 p.2) ∧ ps.map (·.1) = (ws.take j).map (fun q => r.body.getD q default) ∧ ∀ p, p ∈ ps → TermsIn w.heap.size w p.2 p.1.atom.args) (fun _ i _ => ws.length - (intOf i).toNat)
              case atStart => exact ⟨0, [], _, by omega, rfl, Xn11.out, by simp, fun q hq => by simp [List.getD, List.getElem?_replicate, hq], Xk11'.out, World.ownsRow_nil _ _ _ _, rfl, by simp⟩
              case round =>
                obtain ⟨j, ps, tk, hj, rfl, hseen, htl, htm, hK, hO, hps, hpt⟩ := hrel
                have hszk := hK.size
                have hOr := XhO10.out.keep hK lw10
                obtain ⟨d0, d1, d2⟩ := hOr.cells
                have hTs : W10.heap.size < wr.heap.size := heap_lt hseen
                by_cases hlt : j < ws.length
                · obtain ⟨q, hq⟩ : ∃ q, ws[j]? = some q := ⟨_, List.getElem?_eq_getElem hlt⟩
                  have hql := Xhw5.out q (List.mem_of_getElem? hq)
                  obtain ⟨L, hL⟩ : ∃ L, r.body[q]? = some L := ⟨_, List.getElem?_eq_getElem hql⟩
                  have hLd : r.body.getD q default = L := by simp [List.getD, hL]
                  have hready := Xhw6.out j q hq
                  rw [hLd] at hready
                  have htake : ws.take (j + 1) = ws.take j ++ [q] := by rw [List.take_add_one, hq]; rfl
                  have hnq : q ∉ ws.take j := fun h => by
                    have hnd := Xhw4.out
                    have hnd2 : (ws.take (j + 1)).Nodup := List.Sublist.nodup (List.take_sublist _ _) hnd
                    rw [htake, List.nodup_append] at hnd2
                    exact hnd2.2.2 q h q (by simp) rfl
                  have htq : tk[q]? = some false := by
                    have h1 : tk[q]? = some (tk[q]'(by omega)) := List.getElem?_eq_getElem _
                    rw [h1]
                    cases hv : tk[q]'(by omega) with
                    | false => rfl
                    | true => exact absurd ((htm q hql).1 (by simp [List.getD, h1, hv])) hnq
                  obtain ⟨b, off, rfl, hb, sa, hcl, hts⟩ := Xhelb.out q L hL
                  have g : ∀ jj v, (litCells L sa)[jj]? = some v → wr.cell? ⟨b, off + q * 7 + jj, none⟩ = some v := fun jj v h => hOr.old.cell (hcl jj v h) hb
                  obtain ⟨aa, caps, rfl, hlens, hcaps, hels⟩ := id hts
                  have f0 := g 0 _ rfl
                  have f1 := g 1 _ rfl
                  have f2 := g 2 _ rfl
                  have f3 := g 3 _ rfl
                  have f4 := g 4 _ rfl
                  have f5 := g 5 _ rfl
                  have f6 := g 6 _ rfl
                  simp only [Nat.add_zero] at f0
                  have hbW : b < wr.heap.size := by omega
                  have e1 := cells_of_block hseen q (.bool false) (by simp [htq])
                  simp only [Nat.zero_add] at e1
                  obtain ⟨b14, o14, h14, hb14, hx14⟩ : ∃ b14 o14, a14 = some ⟨b14, o14, none⟩ ∧ b14 < W10.heap.size ∧ wr.cell? ⟨b14, o14 + j, none⟩ = some (.int .i64 (q : Int)) := by
                    obtain ⟨a', cap', hv', _, _, hel'⟩ := XhI10.out
                    obtain ⟨b', o', h1, h2, h3⟩ := hel' j (q : Int) (by rw [List.getElem?_map, hq]; rfl)
                    have ha : a14 = a' := by injection hv'
                    rw [ha]
                    exact ⟨b', o', h1, h2, by have := hK.cell h3 h2; simpa using this⟩
                  subst h14
                  have hb14' : b14 < wr.heap.size := by omega
                  have hj1 : (j : Int) < ws.length := by omega
                  have hj0 : (0 : Int) ≤ j := by omega
                  have hq1 : (q : Int) < r.body.length := by omega
                  have hq0 : (0 : Int) ≤ q := by omega
                  have hq2 : (q : Int) ≤ 268435456 := by omega
                  clear g hcl hels
                  have hS0 := And.intro d2 (And.intro e1 (And.intro f0 (And.intro f1 (And.intro f2 (And.intro f3 (And.intro f4 (And.intro f5 f6)))))))
                  obtain ⟨a16, c16, rfl⟩ := own_form hO
                  have hpl : ps.length = j := by
                    have h := congrArg List.length hps
                    rw [List.length_map, List.length_map, List.length_take] at h
                    omega
                  have hLit : LitsIn wr.drew.heap.size wr.drew (.slice a16 ps.length c16) (ps.map (·.1)) :=
                    own_lits (n0 := w.heap.size) (own_kept hO (Keep.drew (fun _ => True) _) (fun _ _ => trivial)) (by omega) (by simp; omega) (fun p hp => terms_keep (hpt p hp) (hOr.old.trans (Keep.drew _ _)))
                  have hUse : ((ps.map (·.1)).flatMap LitD.uses).length ≤ 1073741824 := by
                    rw [hps]
                    exact Nat.le_trans (ahead_uses (List.Sublist.nodup (List.take_sublist _ _) Xhw4.out) (fun i hi => Xhw5.out i (List.mem_of_mem_take hi))) XhN2.out
                  have hrd : readyD L (boundOf (ps.map (·.1))) = true := by rw [hps]; exact hready
                  have htsD := terms_keep hts (hOr.old.trans (Keep.drew _ wr))
                  clear hpl
                  have XhLit := Lib.hid hLit
                  have XhUse := Lib.hid hUse
                  have Xhrd := Lib.hid hrd
                  have XhtsD := Lib.hid htsD
                  have XhS0 := Lib.hid hS0
                  have Xhseen := Lib.hid hseen
                  have Xhtl := Lib.hid htl
                  have Xhtm := Lib.hid htm
                  have XhK := Lib.hid hK
                  have XhO := Lib.hid hO
                  have Xhps := Lib.hid hps
                  have Xhpt := Lib.hid hpt
                  have XhOr := Lib.hid hOr
                  have Xhq := Lib.hid hq
                  have Xhql := Lib.hid hql
                  have XhL := Lib.hid hL
                  have XhLd := Lib.hid hLd
                  have Xhready := Lib.hid hready
                  have Xhtake := Lib.hid htake
                  have Xhnq := Lib.hid hnq
                  have Xhtq := Lib.hid htq
                  have Xhts := Lib.hid hts
                  clear hLit hUse hrd htsD hS0 hseen htl htm hK hO hps hpt hOr hq hql hL hLd hready htake hnq htq hts
                  go_wp2_with fail
                  obtain ⟨y0, y1, y2, y3, y4, y5, y6, y7, y8⟩ := XhS0.out
                  have hd0 : decide ((q : Int) < 0) = false := by simp
                  have hd1 : decide ((r.body.length : Int) ≤ (q : Int)) = false := by simp; omega
                  have hd4 : decide (r.body.length ≤ q) = false := by simp; omega
                  go_region_held3 (fun W : World => W.cell? ⟨w.heap.size, 2, none⟩ = some (.slice (some ⟨b, off, none⟩) r.body.length capB) ∧ W.cell? ⟨W10.heap.size, q, none⟩ = some (.bool false) ∧ W.cell? ⟨b, off + q * 7, none⟩ = some (.int .i64 L.kind) ∧ W.cell? ⟨b, off + q * 7 + 1, none⟩ = some (.string L.atom.pred) ∧ W.cell? ⟨b, off + q * 7 + 2, none⟩ = some (.slice aa L.atom.args.length caps) ∧ W.cell? ⟨b, off + q * 7 + 3, none⟩ = some (.bool L.left.var) ∧ W.cell? ⟨b, off + q * 7 + 4, none⟩ = some (.string L.left.text) ∧ W.cell? ⟨b, off + q * 7 + 5, none⟩ = some (.bool L.right.var) ∧ W.cell? ⟨b, off + q * 7 + 6, none⟩ = some (.string L.right.text))
                    (first | (refine ⟨?_, ?_, ?_, ?_, ?_, ?_, ?_, ?_, ?_⟩ <;> assumption) | go_keep)
                    (first
                      | (go_at_call 18; refine (bound_any wr.drew.heap.size (.slice a16 ps.length c16) (ps.map (·.1)) _ XhLit.out (Nat.le_refl _) XhUse.out).mono ?_; rintro e w1 ⟨v9, rfl, hk1, ho1⟩; have uu0 := hk1.cell y0 (by simp; omega); have uu1 := hk1.cell y1 (by simp; omega); have uu2 := hk1.cell y2 (by simp; omega); have uu3 := hk1.cell y3 (by simp; omega); have uu4 := hk1.cell y4 (by simp; omega); have uu5 := hk1.cell y5 (by simp; omega); have uu6 := hk1.cell y6 (by simp; omega); have uu7 := hk1.cell y7 (by simp; omega); have uu8 := hk1.cell y8 (by simp; omega); have z1w := hk1.size; simp only [World.size_drew] at z1w; clear y0 y1 y2 y3 y4 y5 y6 y7 y8; have hLr := terms_wider (terms_keep XhtsD.out (hk1.mono fun b _ h => by simp; omega)) (show w.heap.size ≤ w1.heap.size by omega); have hS9 := own_strs ho1 (Nat.le_trans (onceL_len _) (Nat.le_trans (bound_flat2 _) XhUse.out)); have Xhk1 := Lib.hid hk1; have XhLr := Lib.hid hLr; have XhS9 := Lib.hid hS9; obtain ⟨a9, c9, rfl⟩ := own_form ho1; clear hk1 ho1 hLr hS9)
                      | (go_at_call 22; refine (readyB_any w1.heap.size L (.slice aa L.atom.args.length caps) _ (boundOf (ps.map (·.1))) _ XhLr.out XhS9.out (Nat.le_refl _)).mono ?_; rintro e w2 ⟨rfl, hk2⟩; rw [Xhrd.out]; have p0 := hk2.cell uu0 (by simp; omega); have p1 := hk2.cell uu1 (by simp; omega); have p2 := hk2.cell uu2 (by simp; omega); have p3 := hk2.cell uu3 (by simp; omega); have p4 := hk2.cell uu4 (by simp; omega); have p5 := hk2.cell uu5 (by simp; omega); have p6 := hk2.cell uu6 (by simp; omega); have p7 := hk2.cell uu7 (by simp; omega); have p8 := hk2.cell uu8 (by simp; omega); have z2w := hk2.size; clear uu0 uu1 uu2 uu3 uu4 uu5 uu6 uu7 uu8; have Xhk2 := Lib.hid hk2; clear hk2))
                  have kq : Keep (fun k => k < wr.heap.size) wr w2 := ((Keep.drew _ _).trans (Xhk1.out.mono fun b _ h => by simp; omega)).trans (Xhk2.out.mono fun b _ h => by omega)
                  have seen2 := kq.heap Xhseen.out hTs
                  have hO2 := own_kept XhO.out kq (fun b hb => (World.ownsRow.lt XhO.out b hb).2)
                  have hOr2 := XhOr.out.keep kq (by omega)
                  have sz2 := kq.size
                  have e2 := cells_of_block seen2 q (.bool false) (by simp [Xhtq.out])
                  have e2f := box_free seen2 q
                  simp only [Nat.zero_add] at e2
                  have hT : Keep (fun b => b ≠ W10.heap.size) w2 (w2.setCell ⟨W10.heap.size, q, none⟩ (.bool true)) := Keep.setCell _ _ _ (by simp)
                  have hzy : (w2.setCell ⟨W10.heap.size, q, none⟩ (.bool true)).heap.size = w2.heap.size := by simp [World.setCell]
                  have seen3 := set_at q (.bool true) seen2
                  have hownb : ∀ b, (Value.slice a16 ps.length c16).ownBlock = some b → W10.heap.size + 1 ≤ b ∧ b < w2.heap.size := fun b hb => World.ownsRow.lt hO2 b hb
                  have hO3 := own_kept hO2 hT (fun b hb => by have := hownb b hb; omega)
                  have hpl : ps.length = j := by
                    have h := congrArg List.length Xhps.out
                    rw [List.length_map, List.length_map, List.length_take] at h
                    omega
                  obtain ⟨v', W12, hr12, ho12, k12, g12, cap12, hv12, hg12, hl12⟩ := app1 el_lits 25 hO3 (litCells L (.slice aa L.atom.args.length caps)) rfl (by simp [litCells, Value.oneCell']) (by omega) (by rw [hzy]; omega)
                  rw [hzy] at hr12
                  subst hv12
                  have seen4 := k12.heap seen3 (own_not hO3 (by omega))
                  have k13 : Keep (fun k => k < W10.heap.size) W10 W12 := XhK.out.trans ((kq.mono fun b _ h => by omega).trans ((hT.mono fun b _ h => by omega).trans (k12.mono fun b _ h => own_not hO3 (by omega))))
                  have hst1 : ((tk.map Value.bool).toArray.setIfInBounds q (.bool true)) = ((tk.set q true).map Value.bool).toArray := by simp [List.map_set]
                  rw [hst1] at seen4
                  have hps2 : (ps ++ [(L, Value.slice aa L.atom.args.length caps)]).map (·.1) = (ws.take (j + 1)).map (fun q => r.body.getD q default) := by
                    rw [Xhtake.out, List.map_append, List.map_append, Xhps.out]
                    show _ ++ [L] = _ ++ [r.body.getD q default]
                    rw [XhLd.out]
                  have ho13 : W12.ownsRow (W10.heap.size + 1) 37 7 (.slice (some ⟨g12, 0, none⟩) (ps.length + 1) cap12) (ps ++ [(L, Value.slice aa L.atom.args.length caps)]).length ((ps ++ [(L, Value.slice aa L.atom.args.length caps)]).flatMap fun p => litCells p.1 p.2) := by
                    simpa using ho12
                  have hpt2 : ∀ p, p ∈ ps ++ [(L, Value.slice aa L.atom.args.length caps)] → TermsIn w.heap.size w p.2 p.1.atom.args := fun p hp => by
                    rcases List.mem_append.1 hp with h | h
                    · exact Xhpt.out p h
                    · simp only [List.mem_singleton] at h; subst h; exact Xhts.out
                  have htl2 : (tk.set q true).length = r.body.length := by rw [List.length_set]; exact Xhtl.out
                  have htm2 : ∀ q', q' < r.body.length → ((tk.set q true).getD q' true = true ↔ q' ∈ ws.take (j + 1)) := fun q' hq' => by
                    rw [Xhtake.out, List.mem_append, List.mem_singleton]
                    by_cases he : q' = q
                    · subst he
                      simp [List.getD, List.getElem?_set, Xhtl.out, hq']
                    · have h := Xhtm.out q' hq'
                      have he' : ¬ q = q' := fun e => he e.symm
                      simp only [List.getD, List.getElem?_set, he', if_false] at h ⊢
                      rw [h]
                      exact ⟨.inl, fun h => h.elim id (fun e => absurd e he)⟩
                  simp only [litCells] at hr12
                  have hbT : b ≠ W10.heap.size := by omega
                  have hwT : w.heap.size ≠ W10.heap.size := by omega
                  have hTs2 : W10.heap.size < w2.heap.size := by omega
                  have hbW2 : b < w2.heap.size := by omega
                  clear hst1 ho12 k12 hg12 hl12 hO3 hownb seen3 hzy hT hOr2 hO2 seen2 kq hpl Xhk1 Xhk2
                  clear XhLit XhUse Xhrd XhtsD XhS0 Xhseen Xhtl Xhtm XhK XhO Xhps Xhpt XhOr Xhready Xhtake Xhnq Xhtq Xhts XhLr XhS9 hd0 hd1 hd4
                  have Xhr12 := Lib.hid hr12
                  have Xseen4 := Lib.hid seen4
                  have Xk13 := Lib.hid k13
                  have Xhps2 := Lib.hid hps2
                  have Xho13 := Lib.hid ho13
                  have Xhpt2 := Lib.hid hpt2
                  have Xhtl2 := Lib.hid htl2
                  have Xhtm2 := Lib.hid htm2
                  clear hr12 seen4 k13 hps2 ho13 hpt2 htl2 htm2
                  go_wp2_with (at_builtin; refine go_app rfl _ _ _ rfl rfl rfl Xhr12.out ?_)
                  go_roundw
                  case rel => exact ⟨j + 1, ps ++ [(L, .slice aa L.atom.args.length caps)], tk.set q true, by omega, by go_num, Xseen4.out, Xhtl2.out, Xhtm2.out, Xk13.out, Xho13.out, Xhps2.out, Xhpt2.out⟩
                  case measure => simp [intOf]; omega
                · obtain rfl : j = ws.length := by omega
                  have kw9 : Keep (fun k => k < w.heap.size) w wr := hOr.old
                  clear hseen htl htm hK hO hps hpt hOr d0 d1 d2
                  have Xkw9 := Lib.hid kw9
                  clear kw9
                  go_wp2_with fail
                  refine (known_any _).mono ?_
                  rintro e W12 ⟨rfl, k12⟩
                  have kw12 : Keep (fun k => k < w.heap.size) w W12 := Xkw9.out.trans (k12.mono fun b _ h => by have := Xkw9.out.size; omega)
                  clear k12
                  have Xkw12 := Lib.hid kw12
                  clear kw12
                  go_wp2_with fail
                  go_ret
                  exact ⟨rfl, Xkw12.out⟩
            | false =>
              have hm := hw2 hwy
              subst hm
              clear hw2 hw3 hwy
              have XhO10 := Lib.hid hO10
              have XhB10 := Lib.hid hB10
              have XhI10 := Lib.hid hI10
              have Xhw4 := Lib.hid hw4
              have Xhw5 := Lib.hid hw5
              have Xhw6 := Lib.hid hw6
              clear hO10 hB10 hI10 hw4 hw5 hw6
              have hmk := Xhmk.out
              go_wp2_with fail
              refine wp_abs (fun W => Keep (fun _ => True) W10 W) (Keep.alloc _ _ _) ?_
              rintro W11 k11
              have kw11 : Keep (fun k => k < w.heap.size) w W11 := XhO10.out.old.trans (k11.mono fun _ _ _ => trivial)
              clear k11 hmk d0 d1 d2
              have Xkw11 := Lib.hid kw11
              clear kw11
              go_loopw [18] (fun ix wr => ix = .int .i64 0 ∧ wr = W11) (fun _ _ => 0)
              case atStart => exact ⟨rfl, rfl⟩
              case round =>
                obtain ⟨rfl, rfl⟩ := hrel
                go_wp2_with fail
                refine (known_any _).mono ?_
                rintro e W12 ⟨rfl, k12⟩
                have kw12 : Keep (fun k => k < w.heap.size) w W12 := Xkw11.out.trans (k12.mono fun b _ h => by have := Xkw11.out.size; omega)
                clear k12
                have Xkw12 := Lib.hid kw12
                clear kw12
                go_wp2_with fail
                go_ret
                exact ⟨rfl, Xkw12.out⟩
end Go.Proofs
