/- Layer 16 (plan): plans in memory of one's own; Make, the program's. -/
import Derived.Test.YtichfebfcapnhaaProg
import Derived.Test.YtichfebfcapnhaaPnV
import Derived.Test.YtichfebfcapnhaaPnW
import Derived.Deep.CutRange
import Derived.Deep.DeepCutAuto
import Derived.Deep.RegionHeld3
namespace Go.Proofs
open Go.RowKit Go.Ink Go.Flt
set_option linter.unusedVariables false
set_option linter.unusedSimpArgs false
attribute [local go_sem] Oper.semAt_some

def stepC (q : StepD × Value × Value) : List Value := [.int .i64 q.1.lit, q.2.1, q.2.2]
def StepsOwn (base : Nat) (w : World) (v : Value) (ss : List StepD) : Prop :=
  ∃ qs : List (StepD × Value × Value), qs.map (·.1) = ss ∧ w.ownsRow base 73 3 v ss.length (qs.flatMap stepC) ∧
    ∀ q, q ∈ qs → w.ownsRow base 3 1 q.2.1 q.1.bound.length (q.1.bound.map (.int .i64)) ∧ w.ownsRow base 9 1 q.2.2 q.1.new.length (q.1.new.map .string)
def StepE (n : Nat) (w : World) (b o : Nat) (s : StepD) : Prop := ∃ bv nv, CellsE w b o [.int .i64 s.lit, bv, nv] ∧ IntsIn n w bv s.bound ∧ StrsIn n w nv s.new
abbrev StepsIn (n : Nat) (w : World) (v : Value) (ss : List StepD) : Prop := SliceIn n w 3 (StepE n) v ss
theorem StepsIn.keep {n : Nat} {w w' : World} {v : Value} {ss : List StepD} (h : StepsIn n w v ss) (hK : Keep (fun k => k < n) w w') : StepsIn n w' v ss :=
  h.mono fun b o s hb ⟨bv, nv, h1, h2, h3⟩ => ⟨bv, nv, fun j v hj => hK.cell (h1 j v hj) hb, ints_kept h2 hK, strs_kept h3 hK⟩
theorem StepsIn.wider {n n' : Nat} {w : World} {v : Value} {ss : List StepD} (h : StepsIn n w v ss) (hn : n ≤ n') : StepsIn n' w v ss :=
  SliceIn.wider h hn fun _ _ _ _ ⟨bv, nv, h1, h2, h3⟩ => ⟨bv, nv, h1, SliceIn.wider h2 hn fun _ _ _ _ h => h, strs_wider h3 hn⟩
def sizedS (ss : List StepD) : Prop := ss.length ≤ 1073741824 ∧ ∀ s, s ∈ ss → s.bound.length ≤ 1073741824 ∧ s.new.length ≤ 1073741824
theorem StepsOwn.steps {base : Nat} {w : World} {v : Value} {ss : List StepD} (h : StepsOwn base w v ss) (hs : sizedS ss) : StepsIn w.heap.size w v ss := by
  obtain ⟨qs, hq, ho, hall⟩ := h
  refine own_slice ho ss rfl hs.1 (StepE w.heap.size) fun b k d hd hc => ?_
  have hd2 : (qs.map (·.1))[k]? = some d := by rw [hq]; exact hd
  rw [List.getElem?_map] at hd2
  obtain ⟨q, hqk, rfl⟩ := Option.map_eq_some_iff.1 hd2
  have hm := List.mem_of_getElem? hqk
  have hss : q.1 ∈ ss := by rw [← hq]; exact List.mem_map.2 ⟨q, hm, rfl⟩
  refine ⟨q.2.1, q.2.2, fun j u hu => ?_, own_ints (hall q hm).1 (hs.2 _ hss).1, own_strs (hall q hm).2 (hs.2 _ hss).2⟩
  have hj : j < 3 := (List.getElem?_eq_some_iff.1 hu).1
  rw [hc j hj, flatMap_at stepC 3 (fun _ => rfl) qs k j q hqk hj]
  exact hu
theorem StepsOwn.keep {base : Nat} {w w' : World} {v : Value} {ss : List StepD} {C : Nat → Prop} (h : StepsOwn base w v ss) (hK : Keep C w w') (hC : ∀ b cs t, base ≤ b → w.heap[b]? = some (.cells cs t (0, 0)) → t = 73 ∨ t = 3 ∨ t = 9 → C b) : StepsOwn base w' v ss := by
  obtain ⟨qs, hq, ho, hall⟩ := h
  refine ⟨qs, hq, own_kept ho hK (fun b hb => ?_), fun q hm => ⟨own_kept (hall q hm).1 hK (fun b hb => ?_), own_kept (hall q hm).2 hK (fun b hb => ?_)⟩⟩
  · obtain ⟨cs, ht⟩ := own_typed ho hb
    exact hC b cs _ (World.ownsRow.lt ho b hb).1 ht (.inl rfl)
  · obtain ⟨cs, ht⟩ := own_typed (hall q hm).1 hb
    exact hC b cs _ (World.ownsRow.lt (hall q hm).1 b hb).1 ht (.inr (.inl rfl))
  · obtain ⟨cs, ht⟩ := own_typed (hall q hm).2 hb
    exact hC b cs _ (World.ownsRow.lt (hall q hm).2 b hb).1 ht (.inr (.inr rfl))
theorem StepsOwn.mono {base base' : Nat} {w : World} {v : Value} {ss : List StepD} (h : StepsOwn base w v ss) (hb : base' ≤ base) : StepsOwn base' w v ss := by
  obtain ⟨qs, hq, ho, hall⟩ := h
  exact ⟨qs, hq, ho.mono hb, fun q hm => ⟨(hall q hm).1.mono hb, (hall q hm).2.mono hb⟩⟩
theorem StepsOwn.nil (base : Nat) (w : World) : StepsOwn base w (.slice none 0 0) [] := ⟨[], rfl, World.ownsRow_nil _ _ _ _, by simp⟩
theorem StepsOwn.form {base : Nat} {w : World} {v : Value} {ss : List StepD} (h : StepsOwn base w v ss) : ∃ a c, v = .slice a ss.length c := by
  obtain ⟨qs, hq, ho, hall⟩ := h
  exact own_form ho
/-- a step more -/
theorem StepsOwn.snoc {base : Nat} {w : World} {v : Value} {ss : List StepD} (h : StepsOwn base w v ss) (s : StepD) (vb vn : Value) (hb : w.ownsRow base 3 1 vb s.bound.length (s.bound.map (.int .i64))) (hn : w.ownsRow base 9 1 vn s.new.length (s.new.map .string)) (hl : ss.length ≤ 1073741824) (hbase : base ≤ w.heap.size) :
    ∃ v' w', (Builtin.append_ #[32, 32] 32 #[v, .slice (some ⟨w.heap.size, 0, none⟩) 1 1]).run Try.prog (w.alloc (.cells #[.int .i64 s.lit, vb, vn] 73)) = .ok v' w' ∧ StepsOwn base w' v' (ss ++ [s]) ∧ Keep (fun b => some b ≠ v.ownBlock) w w' := by
  obtain ⟨qs, hq, ho, hall⟩ := h
  obtain ⟨ab, cb, hvb⟩ := own_form hb
  obtain ⟨an, cn, hvn⟩ := own_form hn
  obtain ⟨v', w', hr, ho2, hk, g, cap, hv, hg, hl2⟩ := app1 (P := Try.prog) el_steps 32 ho [.int .i64 s.lit, vb, vn] rfl (by rw [hvb, hvn]; simp [Value.oneCell']) (by omega) hbase
  refine ⟨v', w', hr, ⟨qs ++ [(s, vb, vn)], by rw [List.map_append, hq]; rfl, by rw [List.length_append, List.flatMap_append]; simpa [stepC] using ho2, fun q hm => ?_⟩, hk⟩
  have hoth : ∀ {e sz : Nat} {u : Value} {m : Nat} {xs : List Value}, w.ownsRow base e sz u m xs → e ≠ 73 → w'.ownsRow base e sz u m xs := fun ho3 he => own_kept ho3 hk (fun b hb e2 => by
    obtain ⟨c1, t1⟩ := own_typed ho3 hb
    obtain ⟨c2, t2⟩ := own_typed ho e2.symm
    rw [t1] at t2
    cases t2
    exact he rfl)
  rcases List.mem_append.1 hm with hm | hm
  · exact ⟨hoth (hall q hm).1 (by decide), hoth (hall q hm).2 (by decide)⟩
  · simp only [List.mem_singleton] at hm
    subst hm
    exact ⟨hoth hb (by decide), hoth hn (by decide)⟩
/-- a plan of one's own -/
def PlanOwn (base : Nat) (w : World) (vh vb vs : Value) (p : PlanD) : Prop := RuleOwn base 78 76 w vh vb p.rule ∧ StepsOwn base w vs p.steps
def planV (p : PlanD) (vh vb vs : Value) : Value := .agg #[.string p.rule.head.pred, vh, vb, vs]
theorem noPlan_own (base : Nat) (w : World) : PlanOwn base w (.slice none 0 0) (.slice none 0 0) (.slice none 0 0) noPlan :=
  ⟨⟨World.ownsRow_nil _ _ _ _, [], rfl, World.ownsRow_nil _ _ _ _, by simp⟩, StepsOwn.nil _ _⟩

theorem made_eq (n : Nat) : madeCells #[.bool false] n = ((List.replicate n false).map Value.bool).toArray := by
  apply Array.ext
  · simp [madeCells]
  · intro i h1 h2
    simp [madeCells, Nat.mod_one]
theorem info_bool : (Try.prog.info? 4).map (fun i => (i.zero, i.size, i.bytes)) = some (some (.bool false), 1, 1) := by kernel_rfl
theorem run_makeBools (n : Nat) (h : n ≤ 1073741824) (u : World) : (Instr.makeSlice 87 (.int .i64 (n : Int)) (.int .i64 (n : Int))).run Try.prog u =
    .ok (.slice (some ⟨u.heap.size, 0, none⟩) n n) (u.alloc (.cells (madeCells #[.bool false] n) 4)) := by
  obtain ⟨i0, hi, hz0, hz1, hz2⟩ := info_parts info_bool
  have h := run_make (P := Try.prog) u 87 4 i0 (.bool false) Try.underlying87 hi hz0 .i64 .i64 (n : Int) (n : Int) (by omega) (Int.le_refl _) (by rw [hz2]; omega) (by omega)
  simpa [hz1, Value.cells] using h
/-- how long the slice in a cell is -/
def cellLen (w : World) (a : Addr) : Nat := match w.cell? a with
  | some (.slice _ n _) => n
  | _ => 0
theorem cellLen_eq {w : World} {a : Addr} {b : Option Addr} {n c : Nat} (h : w.cell? a = some (.slice b n c)) : cellLen w a = n := by unfold cellLen; rw [h]

theorem boundL_pos (K : List ByteArray) (ts : List TermD) : ∀ c, c ∈ boundL K ts → 0 ≤ c := by
  intro c hc
  unfold boundL at hc
  obtain ⟨p, _, rfl⟩ := List.mem_map.1 hc
  omega
theorem formed_kind {r : RuleD} (h : formedB r = true) {L : LitD} (hL : L ∈ r.body) : L.kind = 1 ∨ L.kind = 2 ∨ L.kind = 3 := by
  unfold formedB at h
  rw [Bool.and_eq_true, Bool.and_eq_true, List.all_eq_true] at h
  have := h.2 L hL
  unfold litB at this
  by_cases h12 : L.kind = 1 ∨ L.kind = 2
  · omega
  · rw [if_neg h12] at this
    by_cases h3 : L.kind = 3
    · omega
    · rw [if_neg h3] at this; cases this
theorem step_len (K : List ByteArray) (L : LitD) (i : Int) : (stepP K L i).bound.length ≤ L.atom.args.length ∧ (stepP K L i).new.length ≤ L.atom.args.length ∧ ∀ c, c ∈ (stepP K L i).bound → 0 ≤ c := by
  unfold stepP
  split
  · simp
  · exact ⟨boundL_len _ _, newL_len _ _, boundL_pos _ _⟩
theorem step_lit (K : List ByteArray) (L : LitD) (i : Int) : (stepP K L i).lit = i := by unfold stepP; split <;> rfl
theorem SizesIn.wider {n n' : Nat} {w : World} {v : Value} {ss : List SizeD} (h : SizesIn n w v ss) (hn : n ≤ n') : SizesIn n' w v ss :=
  SliceIn.wider h hn fun _ _ _ _ ⟨sv, h1, h2⟩ => ⟨sv, h1, SliceIn.wider h2 hn fun _ _ _ _ h => h⟩
theorem lss_eq {a b : Nat} (ha : a ≤ 9094988921128908188) (hb : b ≤ 9094988921128908188) : (FloatKind.f64.format.order a b == some .lt) = decide (a < b) := by
  have : FloatKind.f64.format.order a b = some (compare a b) := order_eq (by omega) (by omega)
  rw [this]
  have e : compare a b = if a < b then .lt else if a = b then .eq else .gt := rfl
  rw [e]
  rcases Nat.lt_trichotomy a b with h | h | h
  · rw [if_pos h, decide_eq_true h]; rfl
  · rw [if_neg (show ¬ a < b by omega), if_pos h, decide_eq_false (by omega)]; rfl
  · rw [if_neg (show ¬ a < b by omega), if_neg (show ¬ a = b by omega), decide_eq_false (by omega)]; rfl
theorem scan_taken {K : List ByteArray} {rows : Nat} {sizes : List SizeD} {ls : List LitD} {tk : List Bool} {i : Nat} (h1 : (scan K rows sizes ls tk i).2.2 = false) (h2 : tk.getD i true = true) : scan K rows sizes ls tk (i + 1) = scan K rows sizes ls tk i := by
  rw [show scan K rows sizes ls tk (i + 1) = _ from rfl]
  simp only [scan, h1, h2, if_true, Bool.false_eq_true, if_false]
theorem scan_test {K : List ByteArray} {rows : Nat} {sizes : List SizeD} {ls : List LitD} {tk : List Bool} {i : Nat} {x : LitD} (h1 : (scan K rows sizes ls tk i).2.2 = false) (h2 : tk.getD i true = false) (hx : ls.getD i default = x) (hk : x.kind ≠ 1) :
    scan K rows sizes ls tk (i + 1) = if readyP K x then ((i : Int), (scan K rows sizes ls tk i).2.1, true) else scan K rows sizes ls tk i := by
  rw [show scan K rows sizes ls tk (i + 1) = _ from rfl]
  simp only [scan, h1, h2, hx, hk, ne_eq, not_false_eq_true, if_true, Bool.false_eq_true, if_false]
theorem scan_pos {K : List ByteArray} {rows : Nat} {sizes : List SizeD} {ls : List LitD} {tk : List Bool} {i : Nat} {x : LitD} (h1 : (scan K rows sizes ls tk i).2.2 = false) (h2 : tk.getD i true = false) (hx : ls.getD i default = x) (hk : x.kind = 1) :
    scan K rows sizes ls tk (i + 1) = if (scan K rows sizes ls tk i).1 < 0 ∨ behindD rows x (stepP K x i).bound sizes < (scan K rows sizes ls tk i).2.1 then ((i : Int), behindD rows x (stepP K x i).bound sizes, false) else scan K rows sizes ls tk i := by
  rw [show scan K rows sizes ls tk (i + 1) = _ from rfl]
  simp only [scan, h1, h2, hx, hk, ne_eq, not_true_eq_false, Bool.false_eq_true, if_false]

set_option maxRecDepth 100000 in
set_option maxHeartbeats 4000000 in
theorem make_any (n : Nat) (r : RuleD) (sh sb : Value) (l : List SizeD) (sv : Value) (first : Int) (w : World) (hr : RuleIn n w sh sb r) (hl : SizesIn n w sv l) (hn : n ≤ w.heap.size) :
    Calls Try.prog 12 #[ruleV r sh sb, sv, .int .i64 first] w fun e w' => ∃ vh vb vs, e = .returned (.tuple #[planV (makeD r l first).1 vh vb vs, .int .i64 (makeD r l first).2]) ∧ PlanOwn w.heap.size w' vh vb vs (makeD r l first).1 ∧ Keep (fun b => b < w.heap.size) w w' := by
  have hsized := sized_of hr
  have hM : makeD r l first = if askedD r l (badFirst r first) ≠ 0 then (noPlan, askedD r l (badFirst r first)) else (⟨r, (mkGo r l first r.body.length).steps⟩, 0) := rfl
  have hasked := fun W (hK : Keep (fun b => b < w.heap.size) w W) => asked_any n r sh sb l sv W (hr.keep (hK.mono fun b _ h => by omega)) (hl.keep (hK.mono fun b _ h => by omega)) (by have := hK.size; omega)
  have hcopied := fun W (hK : Keep (fun b => b < w.heap.size) w W) => copied_any n r sh sb W (hr.keep (hK.mono fun b _ h => by omega)) (by have := hK.size; omega)
  obtain ⟨hh, hb⟩ := id hr
  obtain ⟨⟨pr, args⟩, body⟩ := r
  unfold ruleV at hasked hcopied ⊢
  simp only at hh hb hsized hasked hcopied ⊢
  obtain ⟨aa, ca, rfl, hla, -, -⟩ := id hh
  obtain ⟨ab, cb, rfl, hlb, hcb, heb⟩ := id hb
  obtain ⟨asl, csl, rfl, hls, -, -⟩ := id hl
  obtain ⟨N, hN⟩ : ∃ N, w.heap.size = N := ⟨_, rfl⟩
  obtain ⟨bad, hbad⟩ : ∃ b, badFirst ⟨⟨pr, args⟩, body⟩ first = b := ⟨_, rfl⟩
  clear hh hb
  have XhM := Lib.hid hM
  have Xhasked := Lib.hid hasked
  have Xhcopied := Lib.hid hcopied
  have Xheb := Lib.hid heb
  have Xhl := Lib.hid hl
  have Xhsized := Lib.hid hsized
  have Xhbad := Lib.hid hbad
  have XhN := Lib.hid hN
  have Xhr := Lib.hid hr
  clear hM hasked hcopied heb hl hsized hbad hN hr
  go_enter Try.func12, Try.ntmps12
  go_upto_region 1 with fail
  refine wp_abs (fun W => Keep (fun b => b < w.heap.size) w W ∧ W.heap.size = w.heap.size + 1 + 1 ∧ W.heap[w.heap.size]? = some (.cells #[.string pr, .slice aa args.length ca, .slice ab body.length cb] 28 (0, 0)) ∧
    W.heap[w.heap.size + 1]? = some (.cells #[.string ⟨#[]⟩, .slice none 0 0, .slice none 0 0, .slice none 0 0] 34 (0, 0))) ⟨(Keep.alloc _ _ _).trans (Keep.alloc _ _ _), by simp, by simp only [alloc_get, World.size_alloc]; simp, by simp only [alloc_get, World.size_alloc]; simp⟩ ?_
  rintro W0 ⟨k0, z0, a1, a2⟩
  rw [XhN.out] at k0 z0 a1 a2 ⊢
  have c0 := cells_of_block a1 0 _ rfl
  have c1 := cells_of_block a1 1 _ rfl
  have c2 := cells_of_block a1 2 _ rfl
  have r0 := cells_of_block a2 0 _ rfl
  have r1 := cells_of_block a2 1 _ rfl
  have r2 := cells_of_block a2 2 _ rfl
  have r3 := cells_of_block a2 3 _ rfl
  have f0 := box_free a2 0
  have f1 := box_free a2 1
  have f2 := box_free a2 2
  have f3 := box_free a2 3
  simp only [Nat.zero_add] at c0 c1 c2 r0 r1 r2 r3
  have hNl : N < W0.heap.size := by omega
  have hNl1 : N + 1 < W0.heap.size := by omega
  have Xk0 := Lib.hid k0
  have Xa1 := Lib.hid a1
  have Xa2 := Lib.hid a2
  clear k0 a1 a2
  go_cut [40] from 19 to 40 (fun c wx => c = .bool bad ∧ wx = W0)
  case first =>
    have hB := Xhbad.out
    unfold badFirst at hB
    by_cases h1 : first < -1
    · rw [decide_eq_true h1, Bool.true_or, Bool.true_or] at hB
      subst hB
      go_wp2_with fail
      go_meet
      exact ⟨rfl, rfl⟩
    · rw [decide_eq_false h1, Bool.false_or] at hB
      by_cases h2 : (body.length : Int) ≤ first
      · simp only [decide_eq_true h2, Bool.true_or] at hB
        subst hB
        go_wp2_with fail
        go_meet
        exact ⟨rfl, rfl⟩
      · simp only [decide_eq_false h2, Bool.false_or] at hB
        by_cases h3 : 0 ≤ first
        · obtain ⟨k, rfl⟩ : ∃ k : Nat, first = k := ⟨first.toNat, by omega⟩
          rw [decide_eq_true h3, Bool.true_and, Int.toNat_natCast] at hB
          obtain ⟨x, hx⟩ : ∃ x, body[k]? = some x := ⟨_, List.getElem?_eq_getElem (by omega)⟩
          obtain ⟨b, o, rfl, hbn, sa, hcl, hsa⟩ := Xheb.out k x hx
          have d0 := Xk0.out.cell (hcl 0 _ rfl) (show b < N by have := XhN.out; omega)
          simp only [Nat.add_zero] at d0
          have hbw : b < W0.heap.size := by have := XhN.out; omega
          have hgd : body.getD k default = x := by rw [List.getD_eq_getElem?_getD, hx]; rfl
          rw [hgd] at hB
          have hkb : (x.kind != 1) = bad := by rw [← hB]; by_cases h : x.kind = 1 <;> simp [h]
          clear hB hcl hsa hx hgd
          cases bad
          all_goals go_wp2_with fail
          all_goals go_meet
          all_goals exact ⟨rfl, rfl⟩
        · rw [decide_eq_false h3, Bool.false_and] at hB
          subst hB
          go_wp2_with fail
          go_meet
          exact ⟨rfl, rfl⟩
  case rest =>
    obtain ⟨rfl, hwc⟩ := hcut
    subst hwc
    cases bad
    · have hk1 := Xhasked.out wc (Xk0.out.mono fun b _ h => by have := XhN.out; omega)
      obtain ⟨ea, hea⟩ : ∃ e, askedD ⟨⟨pr, args⟩, body⟩ l false = e := ⟨_, rfl⟩
      rw [hea] at hk1
      by_cases he0 : ea = 0
      · have hM2 : makeD ⟨⟨pr, args⟩, body⟩ l first = (⟨⟨⟨pr, args⟩, body⟩, (mkGo ⟨⟨pr, args⟩, body⟩ l first body.length).steps⟩, 0) := by
          rw [XhM.out, Xhbad.out, hea, he0]; rfl
        have hgood : formedB ⟨⟨pr, args⟩, body⟩ = true ∧ usableB l = true ∧ safeP ⟨⟨pr, args⟩, body⟩ = true := by
          rw [he0] at hea
          unfold askedD at hea
          cases h1 : formedB ⟨⟨pr, args⟩, body⟩ <;> cases h2 : usableB l <;> cases h3 : safeP ⟨⟨pr, args⟩, body⟩ <;> rw [h1, h2, h3] at hea <;> first | exact ⟨rfl, rfl, rfl⟩ | (exfalso; revert hea; decide)
        subst he0
        clear hea
        have XhM2 := Lib.hid hM2
        have Xhk1 := Lib.hid hk1
        have Xhgood := Lib.hid hgood
        clear hM2 hk1 hgood
        go_wp2_with fail
        refine Xhk1.out.mono ?_
        rintro e W1 ⟨rfl, k1⟩
        have hz1 := k1.size
        have e0 := k1.cell c0 hNl
        have e1 := k1.cell c1 hNl
        have e2 := k1.cell c2 hNl
        have hl1 : N < W1.heap.size := by omega
        have hcp := Xhcopied.out W1 ((Xk0.out.trans (k1.mono fun b _ h => by omega)).mono fun b _ h => by have := XhN.out; omega)
        clear c0 c1 c2 r0 r1 r2 r3 f0 f1 f2 f3
        have Xk1 := Lib.hid k1
        have Xhcp := Lib.hid hcp
        clear k1 hcp
        go_wp2_with fail
        refine Xhcp.out.mono ?_
        rintro e W2 ⟨vh, vb, rfl, ho, k2⟩
        have hz2 := k2.size
        have g0 := k2.cell e0 hl1
        have g1 := k2.cell e1 hl1
        have g2 := k2.cell e2 hl1
        have hl2 : N < W2.heap.size := by omega
        obtain ⟨avh, cvh, rfl⟩ := own_form ho.1
        obtain ⟨avb, cvb, rfl⟩ : ∃ a c, vb = .slice a body.length c := by
          obtain ⟨ps, hps, h, _⟩ := ho.2
          exact own_form h
        have hmm := fun w => run_makeSet w
        have hmk := fun u => run_makeBools body.length hlb u
        clear e0 e1 e2
        have Xho := Lib.hid ho
        have Xk2 := Lib.hid k2
        clear ho k2
        go_wp2_with fail
        refine wp_abs (fun W => Keep (fun b => b < W2.heap.size) W2 W ∧ W.heap.size = W2.heap.size + 1 + 1 + 1 ∧ W.heap[W2.heap.size]? = some (.cells #[.string pr, .slice avh args.length cvh, .slice avb body.length cvb, .slice none 0 0] 34 (0, 0)) ∧
          SetIn W (W2.heap.size + 1) [] ∧ W.heap[W2.heap.size + 1 + 1]? = some (.cells ((List.replicate body.length false).map Value.bool).toArray 4 (0, 0)))
          ⟨((Keep.alloc _ _ _).trans (Keep.alloc _ _ _)).trans (Keep.alloc _ _ _), by simp, by simp only [alloc_get, World.size_alloc]; simp; omega, by
            refine (SetIn.keep (w := (W2.alloc (.cells #[.string pr, .slice avh args.length cvh, .slice avb body.length cvb, .slice none 0 0] 34)).alloc (.map #[] 0)) ?_ (Keep.alloc (fun _ => True) _ _) trivial)
            have := setIn_new (W2.alloc (.cells #[.string pr, .slice avh args.length cvh, .slice avb body.length cvb, .slice none 0 0] 34))
            simpa using this, by rw [made_eq]; simp only [alloc_get, World.size_alloc]; simp⟩ ?_
        rintro W3 ⟨k3, z3, p1, s1, t1⟩
        clear hmm hmk g0 g1 g2
        have b2 : W2.heap[N]? = some (.cells #[.string pr, .slice aa args.length ca, .slice ab body.length cb] 28 (0, 0)) := Xk2.out.heap (Xk1.out.heap Xa1.out hNl) hl1
        have b3 : W2.heap[N + 1]? = some (.cells #[.string ⟨#[]⟩, .slice none 0 0, .slice none 0 0, .slice none 0 0] 34 (0, 0)) := Xk2.out.heap (Xk1.out.heap Xa2.out hNl1) (by omega)
        have a3 := k3.heap b2 hl2
        have a4 := k3.heap b3 (show N + 1 < W2.heap.size by omega)
        have kw3 : Keep (fun b => b < N) w W3 := ((Xk0.out.trans (Xk1.out.mono fun b _ h => by omega)).trans (Xk2.out.mono fun b _ h => by omega)).trans (k3.mono fun b _ h => by omega)
        obtain ⟨P, hP⟩ : ∃ P, W2.heap.size = P := ⟨_, rfl⟩
        rw [hP] at z3 p1 s1 t1 ⊢
        have hPN : N + 1 < P := by omega
        have hPN2 : W1.heap.size ≤ P := by omega
        have hbo : W1.heap.size ≥ N := by omega
        clear b2 b3
        have Xp1 := Lib.hid p1
        have Xs1 := Lib.hid s1
        have Xt1 := Lib.hid t1
        have Xa3 := Lib.hid a3
        have Xa4 := Lib.hid a4
        have Xkw3 := Lib.hid kw3
        have Xk3 := Lib.hid k3
        have XhP := Lib.hid hP
        clear p1 s1 t1 a3 a4 kw3 k3 hP
        go_loopw [12] (fun x12 wr => ∃ (j : Nat) (vs : Value), j ≤ body.length ∧ x12 = .float .f64 (mkGo ⟨⟨pr, args⟩, body⟩ l first j).rows ∧ Keep (fun b => b < P) W3 wr ∧
          wr.heap[P]? = some (.cells #[.string pr, .slice avh args.length cvh, .slice avb body.length cvb, vs] 34 (0, 0)) ∧ SetIn wr (P + 1) (mkGo ⟨⟨pr, args⟩, body⟩ l first j).K ∧
          wr.heap[P + 1 + 1]? = some (.cells ((mkGo ⟨⟨pr, args⟩, body⟩ l first j).taken.map Value.bool).toArray 4 (0, 0)) ∧ StepsOwn (P + 1 + 1 + 1) wr vs (mkGo ⟨⟨pr, args⟩, body⟩ l first j).steps ∧ P + 1 + 1 + 1 ≤ wr.heap.size) (fun _ wr => body.length - cellLen wr ⟨P, 3, none⟩)
        case atStart => exact ⟨0, _, by omega, rfl, Keep.refl _ _, Xp1.out, Xs1.out, Xt1.out, StepsOwn.nil _ _, by omega⟩
        case round =>
          obtain ⟨j, vs, hj, rfl, hK, hP1, hS, hT, hso, hsz⟩ := hrel
          have hok := mk_ok (first := first) Xhgood.out.2.1 Xhgood.out.2.2 Xhbad.out j hj
          obtain ⟨avs, cvs, rfl⟩ := hso.form
          rw [hok.stp] at hP1
          have hj0 : (0 : Int) ≤ j := by omega
          have x3 := cells_of_block hP1 3 _ rfl
          have a5 := hK.heap Xa3.out (show N < P by omega)
          have c0 := cells_of_block a5 0 _ rfl
          have c1 := cells_of_block a5 1 _ rfl
          have c2 := cells_of_block a5 2 _ rfl
          simp only [Nat.zero_add] at x3 c0 c1 c2
          have hPl := heap_lt hP1
          have hNw : N < wr.heap.size := by omega
          have kw : Keep (fun b => b < N) w wr := Xkw3.out.trans (hK.mono fun b _ h => by omega)
          have hStepLen := hok.stp
          obtain ⟨s, hs⟩ : ∃ s, mkGo ⟨⟨pr, args⟩, body⟩ l first j = s := ⟨_, rfl⟩
          rw [hs] at hS hT hso hok hStepLen ⊢
          by_cases hlt : j < body.length
          · have hlt1 : (j : Int) < body.length := by omega
            have hch := choose_good (sizes := l) Xhgood.out.2.2 Xhbad.out hlt hok (fun h => by subst h; rw [← hs]; rfl)
            obtain ⟨kb, hkb1, hkb2, hkb3, hkb4⟩ := hch
            clear a5
            have XhK := Lib.hid hK
            have XhP1 := Lib.hid hP1
            have XhS := Lib.hid hS
            have XhT := Lib.hid hT
            have Xhso := Lib.hid hso
            have Xhok := Lib.hid hok
            have Xkw := Lib.hid kw
            have Xhs := Lib.hid hs
            have XhStepLen := Lib.hid hStepLen
            have Xhkb1 := Lib.hid hkb1
            have Xhkb3 := Lib.hid hkb3
            have Xhkb4 := Lib.hid hkb4
            clear hK hP1 hS hT hso hok kw hs hStepLen hkb1 hkb3 hkb4
            go_upto_region 12 with fail
            go_cut [72] from 57 to 136 (fun c wx => c = .bool (decide (0 < j ∨ first < 0)) ∧ wx = wr)
            case first =>
              by_cases hc1 : 0 < j
              · have hj1 : 0 < (j : Int) := by omega
                have hdc : decide (0 < j ∨ first < 0) = true := decide_eq_true (.inl hc1)
                have Xhdc := Lib.hid hdc
                clear hdc
                go_wp2_with fail
                go_meet
                exact ⟨by rw [Xhdc.out], rfl⟩
              · obtain rfl : j = 0 := by omega
                have hdc : decide (0 < 0 ∨ first < 0) = decide (first < 0) := by rw [decide_eq_decide]; omega
                have Xhdc := Lib.hid hdc
                clear hdc
                go_wp2_with fail
                go_meet
                exact ⟨by rw [Xhdc.out], rfl⟩
            case rest =>
              obtain ⟨rfl, hwc⟩ := hcut
              have hwc := hwc.symm
              subst hwc
              obtain ⟨bc, hbc⟩ : ∃ b, decide (0 < j ∨ first < 0) = b := ⟨_, rfl⟩
              rw [hbc]
              have Xhbc := Lib.hid hbc
              clear hbc
              obtain ⟨Wo, hWo⟩ : ∃ W, W = wr := ⟨_, rfl⟩
              subst hWo
              go_upto_if 72 with fail
              go_cut [13, 14, 15, 16, 17] from 57 to 136 (fun c v14 v15 v16 v17 wx => c = .int .i64 (kb : Int) ∧ Keep (fun _ => True) Wo wx)
              case first =>
                cases bc
                · have hkf : first = (kb : Int) := by
                    have h1 := Xhkb1.out
                    unfold chooseM at h1
                    rwa [if_neg (of_decide_eq_false Xhbc.out)] at h1
                  subst hkf
                  go_wp2_with fail
                  go_meet
                  exact ⟨rfl, Keep.refl _ _⟩
                · have hkp : (scan s.K s.rows l body s.taken body.length).1 = (kb : Int) := by
                    have h1 := Xhkb1.out
                    unfold chooseM at h1
                    rw [if_pos (of_decide_eq_true Xhbc.out)] at h1
                    exact h1
                  have hready := fun (i : Nat) (x : LitD) (hx : body[i]? = some x) sa (hsa : TermsIn n w sa x.atom.args) W (hK : Keep (fun _ => True) Wo W) => ready_any n (P + 1) s.K x sa W (XhS.out.keep hK trivial) (terms_keep hsa (Xkw.out.trans (hK.mono fun _ _ _ => trivial) |>.mono fun b _ h => by have := XhN.out; omega)) (by have := hK.size; have := XhN.out; omega)
                  have hstep := fun (i : Nat) (x : LitD) (hx : body[i]? = some x) W (hK : Keep (fun _ => True) Wo W) => step_any n (P + 1) s.K ⟨⟨pr, args⟩, body⟩ (.slice aa args.length ca) (.slice ab body.length cb) i x hx W (XhS.out.keep hK trivial) (Xhr.out.keep (Xkw.out.trans (hK.mono fun _ _ _ => trivial) |>.mono fun b _ h => by have := XhN.out; omega)) (by have := hK.size; have := XhN.out; omega)
                  have hbeh := fun (x : LitD) (hk1 : x.kind = 1) sa (hsa : ∃ y m c, sa = .slice y m c) (st : StepD) (hpos : ∀ c, c ∈ st.bound → 0 ≤ c) bv nv W (hK : Keep (fun _ => True) Wo W) (hnv : ∃ y m c, nv = .slice y m c) (hb : IntsIn W.heap.size W bv st.bound) =>
                    behind_any W.heap.size s.rows Xhok.out.row x sa st bv nv l (.slice asl l.length csl) Xhgood.out.2.1 hpos (.inl hk1) W hsa hnv (SizesIn.wider (Xhl.out.keep (Xkw.out.trans (hK.mono fun _ _ _ => trivial) |>.mono fun b _ h => by have := XhN.out; omega)) (by have := hK.size; have := XhN.out; omega)) hb (Nat.le_refl _)
                  unfold ruleV at hstep
                  simp only at hstep
                  have hls := fun i => scan_least (K := s.K) Xhok.out.row Xhgood.out.2.1 (ls := body) (tk := s.taken) i
                  have Xhkp := Lib.hid hkp
                  have Xhready := Lib.hid hready
                  have Xhstep := Lib.hid hstep
                  have Xhbeh := Lib.hid hbeh
                  have Xhls := Lib.hid hls
                  clear hkp hready hstep hbeh hls
                  go_wp2_with fail
                  go_step3
                  go_wp2_with fail
                  go_step3
                  go_wp2_with fail
                  go_loopw [13, 14, 76] (fun x13 x14 x76 wq => ∃ i : Nat, i ≤ body.length ∧ x76 = .int .i64 (i : Int) ∧ x13 = .int .i64 (scan s.K s.rows l body s.taken i).1 ∧ x14 = .float .f64 (scan s.K s.rows l body s.taken i).2.1 ∧ (scan s.K s.rows l body s.taken i).2.2 = false ∧ Keep (fun _ => True) Wo wq) (fun _ _ i _ => body.length - (intOf i).toNat)
                  case atStart => exact ⟨0, by omega, rfl, rfl, rfl, rfl, Keep.refl _ _⟩
                  case round =>
                    obtain ⟨i, hi, rfl, rfl, rfl, hsd, hKq⟩ := hrel
                    have hzq := hKq.size
                    have hNq : N < wr.heap.size := by omega
                    have d0 := hKq.cell c0 trivial
                    have d1 := hKq.cell c1 trivial
                    have d2 := hKq.cell c2 trivial
                    have hTq := hKq.heap XhT.out trivial
                    by_cases hlti : i < body.length
                    · have hlti1 : (i : Int) < body.length := by omega
                      have hi0 : (0 : Int) ≤ i := by omega
                      obtain ⟨x, hx⟩ : ∃ x, body[i]? = some x := ⟨_, List.getElem?_eq_getElem hlti⟩
                      obtain ⟨b, o, rfl, hb, sa, hcl, hsa⟩ := Xheb.out i x hx
                      obtain ⟨tb, htb⟩ : ∃ t, s.taken.getD i true = t := ⟨_, rfl⟩
                      have htc : wr.cell? ⟨P + 1 + 1, i, none⟩ = some (.bool tb) := by
                        have hlt' : i < s.taken.length := by rw [Xhok.out.len]; exact hlti
                        have := cells_of_block hTq i (.bool tb) (by rw [List.getElem?_map, List.getElem?_eq_getElem hlt', ← htb, List.getD_eq_getElem?_getD, List.getElem?_eq_getElem hlt']; rfl)
                        rwa [Nat.zero_add] at this
                      have hTl := heap_lt hTq
                      have hgd : body.getD i default = x := by rw [List.getD_eq_getElem?_getD, hx]; rfl
                      have hrd := Xhready.out i x hx sa hsa
                      have hst := Xhstep.out i x hx
                      have hbh := fun hk1 => Xhbeh.out x hk1 sa
                      obtain ⟨asa, csa, rfl, hlx, -, -⟩ := id hsa
                      have kwr : Keep (fun b => b < N) w wr := Xkw.out.trans (hKq.mono fun _ _ _ => trivial)
                      have g : ∀ j v, (litCells x (.slice asa x.atom.args.length csa))[j]? = some v → wr.cell? ⟨b, o + i * 7 + j, none⟩ = some v := fun j v h => kwr.cell (hcl j v h) (show b < N by have := XhN.out; omega)
                      have m0 := g 0 _ rfl
                      have m1 := g 1 _ rfl
                      have m2 := g 2 _ rfl
                      have m3 := g 3 _ rfl
                      have m4 := g 4 _ rfl
                      have m5 := g 5 _ rfl
                      have m6 := g 6 _ rfl
                      simp only [Nat.add_zero] at m0
                      have hbw : b < wr.heap.size := by have := XhN.out; omega
                      obtain ⟨W5, hW5⟩ : ∃ W5, wr.alloc (.cells #[.int .i64 x.kind, .string x.atom.pred, .slice asa x.atom.args.length csa, .bool x.left.var, .string x.left.text, .bool x.right.var, .string x.right.text] 78) = W5 := ⟨_, rfl⟩
                      have k5 : Keep (fun _ => True) wr W5 := by rw [← hW5]; exact Keep.alloc _ _ _
                      have hK5 := hKq.trans k5
                      have hz5 := k5.size
                      have bl5 : W5.heap[wr.heap.size]? = some (.cells #[.int .i64 x.kind, .string x.atom.pred, .slice asa x.atom.args.length csa, .bool x.left.var, .string x.left.text, .bool x.right.var, .string x.right.text] 78 (0, 0)) := by rw [← hW5]; exact new_block _ _
                      have hl5 := heap_lt bl5
                      have q0 := cells_of_block bl5 0 _ rfl
                      have q1 := cells_of_block bl5 1 _ rfl
                      have q2 := cells_of_block bl5 2 _ rfl
                      have q3 := cells_of_block bl5 3 _ rfl
                      have q4 := cells_of_block bl5 4 _ rfl
                      have q5 := cells_of_block bl5 5 _ rfl
                      have q6 := cells_of_block bl5 6 _ rfl
                      simp only [Nat.zero_add] at q0 q1 q2 q3 q4 q5 q6
                      have e0 := k5.cell d0 trivial
                      have e1 := k5.cell d1 trivial
                      have e2 := k5.cell d2 trivial
                      unfold litV at hrd hbh
                      clear g hcl hsa hTq bl5 kwr
                      cases tb
                      · by_cases hk1 : x.kind = 1
                        · have hsc := scan_pos (sizes := l) (rows := s.rows) hsd htb hgd hk1
                          have hsb : (stepP s.K x i).bound = boundL s.K x.atom.args := by unfold stepP; rw [if_neg (by omega)]
                          have hsn : (stepP s.K x i).new = newL s.K x.atom.args := by unfold stepP; rw [if_neg (by omega)]
                          have hst5 := hst W5.drew (hK5.trans (Keep.drew _ _))
                          have hle1 := boundL_len s.K x.atom.args
                          have hle2 := newL_len s.K x.atom.args
                          have hbh2 := hbh hk1 ⟨_, _, _, rfl⟩ ⟨(i : Int), boundL s.K x.atom.args, newL s.K x.atom.args⟩ (boundL_pos _ _)
                          unfold stepV at hbh2
                          simp only at hbh2
                          have hnb := behind_le Xhok.out.row x (boundL s.K x.atom.args) Xhgood.out.2.1
                          rw [hsb] at hsc hst5
                          rw [hsn] at hst5
                          have hkb : (x.kind != 1) = false := by simp [hk1]
                          obtain ⟨nb, hnbe⟩ : ∃ nb, behindD s.rows x (boundL s.K x.atom.args) l = nb := ⟨_, rfl⟩
                          simp only [hnbe] at hsc hbh2 hnb
                          have hlsi := Xhls.out i
                          obtain ⟨bi, hbi⟩ : ∃ bi, (scan s.K s.rows l body s.taken i).1 = bi := ⟨_, rfl⟩
                          obtain ⟨li, hli⟩ : ∃ li, (scan s.K s.rows l body s.taken i).2.1 = li := ⟨_, rfl⟩
                          rw [hbi, hli] at hsc
                          rw [hli] at hlsi
                          rw [hbi, hli]
                          have hlss := lss_eq hnb hlsi
                          clear hk1 hgd hx hrd hst hbh hsb hsn hnbe
                          have Xhsc := Lib.hid hsc
                          have Xhsd := Lib.hid hsd
                          have XhKq := Lib.hid hKq
                          have Xhst5 := Lib.hid hst5
                          have Xhbh2 := Lib.hid hbh2
                          have Xhtb := Lib.hid htb
                          have XhW5 := Lib.hid hW5
                          have Xk5 := Lib.hid k5
                          have XhK5 := Lib.hid hK5
                          have Xhbi := Lib.hid hbi
                          have Xhli := Lib.hid hli
                          have Xhlss := Lib.hid hlss
                          clear hsc hsd hKq hst5 hbh2 htb hW5 k5 hK5 hbi hli hlss
                          go_wp2_with fail
                          rw [XhW5.out]
                          go_region_held3 (fun W => W.cell? ⟨wr.heap.size, 0, none⟩ = some (.int .i64 x.kind) ∧ W.cell? ⟨wr.heap.size, 1, none⟩ = some (.string x.atom.pred) ∧ W.cell? ⟨wr.heap.size, 2, none⟩ = some (.slice asa x.atom.args.length csa) ∧ W.cell? ⟨wr.heap.size, 3, none⟩ = some (.bool x.left.var) ∧ W.cell? ⟨wr.heap.size, 4, none⟩ = some (.string x.left.text) ∧ W.cell? ⟨wr.heap.size, 5, none⟩ = some (.bool x.right.var) ∧ W.cell? ⟨wr.heap.size, 6, none⟩ = some (.string x.right.text) ∧
              W.cell? ⟨N, 0, none⟩ = some (.string pr) ∧ W.cell? ⟨N, 1, none⟩ = some (.slice aa args.length ca) ∧ W.cell? ⟨N, 2, none⟩ = some (.slice (some ⟨b, o, none⟩) body.length cb))
                            (first | (refine ⟨?_, ?_, ?_, ?_, ?_, ?_, ?_, ?_, ?_, ?_⟩ <;> assumption) | go_keep)
                            (first
                              | (go_at_call 41; refine Xhst5.out.mono ?_; rintro e w1 ⟨vb, vn, rfl, ob, on, hq⟩; have q0' := hq.cell q0 (by simp; omega); have q1' := hq.cell q1 (by simp; omega); have q2' := hq.cell q2 (by simp; omega); have q3' := hq.cell q3 (by simp; omega); have q4' := hq.cell q4 (by simp; omega); have q5' := hq.cell q5 (by simp; omega); have q6' := hq.cell q6 (by simp; omega); have e0' := hq.cell e0 (by simp; omega); have e1' := hq.cell e1 (by simp; omega); have e2' := hq.cell e2 (by simp; omega); have zq := hq.size; simp only [World.size_drew] at zq; clear q0 q1 q2 q3 q4 q5 q6 e0 e1 e2)
                              | (go_at_call 40; refine (Xhbh2.out vb vn w1 ((XhK5.out.trans (Keep.drew _ _)).trans (hq.mono fun b hb _ => hb)) (by obtain ⟨ax, cx, hx⟩ := own_form on; exact ⟨_, _, _, hx⟩) (own_ints ob (by omega))).mono ?_; rintro e w2 ⟨rfl, hp⟩; have q0'' := hp.cell q0' (by simp; omega); have q1'' := hp.cell q1' (by simp; omega); have q2'' := hp.cell q2' (by simp; omega); have q3'' := hp.cell q3' (by simp; omega); have q4'' := hp.cell q4' (by simp; omega); have q5'' := hp.cell q5' (by simp; omega); have q6'' := hp.cell q6' (by simp; omega); have e0'' := hp.cell e0' (by simp; omega); have e1'' := hp.cell e1' (by simp; omega); have e2'' := hp.cell e2' (by simp; omega); have zp := hp.size; clear q0' q1' q2' q3' q4' q5' q6' e0' e1' e2'))
                          have hK7 : Keep (fun _ => True) Wo w2 := ((XhK5.out.trans (Keep.drew _ _)).trans (hq.mono fun b hb _ => hb)).trans (hp.mono fun b hb _ => hb)
                          have hsc := Xhsc.out
                          clear hq hp ob on q0'' q1'' q2'' q3'' q4'' q5'' q6'' e0'' e1'' e2'' Xhsc m0 m1 m2 m3 m4 m5 m6 d0 d1 d2
                          have XhK7 := Lib.hid hK7
                          clear hK7
                          by_cases hb0 : bi < 0
                          · rw [if_pos (.inl hb0)] at hsc
                            clear Xhlss
                            have Xhsc := Lib.hid hsc
                            clear hsc
                            go_wp2_with fail
                            go_roundw
                            case rel => exact ⟨i + 1, by omega, by go_num, by rw [Xhsc.out], by rw [Xhsc.out], by rw [Xhsc.out], XhK7.out⟩
                            case measure => simp [intOf]; omega
                          · by_cases hnl : nb < li
                            · rw [if_pos (.inr hnl)] at hsc
                              have hlt' := Xhlss.out
                              rw [decide_eq_true hnl] at hlt'
                              clear Xhlss hnl
                              have Xhsc := Lib.hid hsc
                              clear hsc
                              go_wp2_with fail
                              go_roundw
                              case rel => exact ⟨i + 1, by omega, by go_num, by rw [Xhsc.out], by rw [Xhsc.out], by rw [Xhsc.out], XhK7.out⟩
                              case measure => simp [intOf]; omega
                            · rw [if_neg (fun h => h.elim hb0 hnl)] at hsc
                              have hlt' := Xhlss.out
                              rw [decide_eq_false hnl] at hlt'
                              clear Xhlss hnl
                              have Xhsc := Lib.hid hsc
                              clear hsc
                              go_wp2_with fail
                              go_roundw
                              case rel => exact ⟨i + 1, by omega, by go_num, by rw [Xhsc.out, Xhbi.out], by rw [Xhsc.out, Xhli.out], by rw [Xhsc.out]; exact Xhsd.out, XhK7.out⟩
                              case measure => simp [intOf]; omega
                        · have hsc := scan_test (sizes := l) hsd htb hgd hk1
                          have hkb : (x.kind != 1) = true := bne_iff_ne.2 hk1
                          have hrd5 := hrd W5 hK5
                          obtain ⟨rb, hrb⟩ : ∃ b, readyP s.K x = b := ⟨_, rfl⟩
                          rw [hrb] at hsc hrd5
                          clear hk1 hgd hx hrd hst hbh
                          cases rb
                          · simp only [Bool.false_eq_true, if_false] at hsc
                            rw [← hsc]
                            rw [← hsc] at hsd
                            have Xhsc := Lib.hid hsc
                            have Xhsd := Lib.hid hsd
                            have XhKq := Lib.hid hKq
                            have Xhrd5 := Lib.hid hrd5
                            have Xhrb := Lib.hid hrb
                            have Xhtb := Lib.hid htb
                            have XhW5 := Lib.hid hW5
                            have Xk5 := Lib.hid k5
                            have XhK5 := Lib.hid hK5
                            clear hsc hsd hKq hrd5 hrb htb hW5 k5 hK5
                            go_wp2_with fail
                            rw [XhW5.out]
                            refine Xhrd5.out.mono ?_
                            rintro e W6 ⟨rfl, k6⟩
                            go_wp2_with fail
                            go_roundw
                            case rel => exact ⟨i + 1, by omega, by go_num, rfl, rfl, Xhsd.out, XhK5.out.trans (k6.mono fun b hb _ => hb)⟩
                            case measure => simp [intOf]; omega
                          · simp only [if_true] at hsc
                            have hfin : (i : Int) = (kb : Int) := by
                              have h1 := scan_done (i := i + 1) (K := s.K) (rows := s.rows) (sizes := l) (ls := body) (tk := s.taken) (by rw [hsc]) body.length (by omega)
                              rw [← Xhkp.out, h1, hsc]
                            have Xhsc := Lib.hid hsc
                            have Xhsd := Lib.hid hsd
                            have XhKq := Lib.hid hKq
                            have Xhrd5 := Lib.hid hrd5
                            have Xhrb := Lib.hid hrb
                            have Xhtb := Lib.hid htb
                            have XhW5 := Lib.hid hW5
                            have Xk5 := Lib.hid k5
                            have XhK5 := Lib.hid hK5
                            have Xhfin := Lib.hid hfin
                            clear hsc hsd hKq hrd5 hrb htb hW5 k5 hK5 hfin
                            go_wp2_with fail
                            rw [XhW5.out]
                            refine Xhrd5.out.mono ?_
                            rintro e W6 ⟨rfl, k6⟩
                            go_wp2_with fail
                            refine Met.intro ?_
                            go_step
                            go_meet
                            exact ⟨by rw [Xhfin.out], XhK5.out.trans (k6.mono fun b hb _ => hb)⟩
                      · have hsc := scan_taken (rows := s.rows) (sizes := l) (ls := body) hsd htb
                        rw [← hsc]
                        rw [← hsc] at hsd
                        clear hgd hx hrd hst hbh
                        have Xhsc := Lib.hid hsc
                        have Xhsd := Lib.hid hsd
                        have XhKq := Lib.hid hKq
                        have Xhtb := Lib.hid htb
                        have XhW5 := Lib.hid hW5
                        have Xk5 := Lib.hid k5
                        have XhK5 := Lib.hid hK5
                        clear hsc hsd hKq htb hW5 k5 hK5
                        go_wp2_with fail
                        rw [XhW5.out]
                        go_roundw
                        case rel => exact ⟨i + 1, by omega, by go_num, rfl, rfl, Xhsd.out, XhK5.out⟩
                        case measure => simp [intOf]; omega
                    · obtain rfl : i = body.length := by omega
                      have hfin := Xhkp.out
                      clear hTq
                      have Xhsd := Lib.hid hsd
                      have XhKq := Lib.hid hKq
                      have Xhfin := Lib.hid hfin
                      clear hsd hKq hfin
                      go_wp2_with fail
                      refine Met.intro ?_
                      go_step
                      go_meet
                      exact ⟨by rw [Xhfin.out], XhKq.out⟩
              case rest =>
                obtain ⟨rfl, hkx⟩ := hcut
                clear hwc
                have hzx := hkx.size
                have hNx : N < wc.heap.size := by omega
                have d0 := hkx.cell c0 trivial
                have d1 := hkx.cell c1 trivial
                have d2 := hkx.cell c2 trivial
                have hTx := hkx.heap XhT.out trivial
                have hPx := hkx.heap XhP1.out trivial
                have hSx := XhS.out.keep hkx trivial
                have hsox := Xhso.out.keep hkx (fun _ _ _ _ _ _ => trivial)
                have kwx : Keep (fun b => b < N) w wc := Xkw.out.trans (hkx.mono fun _ _ _ => trivial)
                have hKx : Keep (fun b => b < P) W3 wc := XhK.out.trans (hkx.mono fun _ _ _ => trivial)
                obtain ⟨x, hx⟩ : ∃ x, body[kb]? = some x := ⟨_, List.getElem?_eq_getElem hkb2⟩
                obtain ⟨b, o, rfl, hb, sa, hcl, hsa⟩ := Xheb.out kb x hx
                have hst := step_any n (P + 1) s.K ⟨⟨pr, args⟩, body⟩ (.slice aa args.length ca) (.slice (some ⟨b, o, none⟩) body.length cb) kb x hx wc hSx (Xhr.out.keep (kwx.mono fun b _ h => by have := XhN.out; omega)) (by have := XhN.out; omega)
                unfold ruleV at hst
                simp only at hst
                have hgd : body.getD kb default = x := by rw [List.getD_eq_getElem?_getD, hx]; rfl
                have hkd := formed_kind Xhgood.out.1 (List.mem_of_getElem? hx)
                obtain ⟨hsl1, hsl2, hsl3⟩ := step_len s.K x kb
                have hslit := step_lit s.K x kb
                obtain ⟨st, hste⟩ : ∃ st, stepP s.K x kb = st := ⟨_, rfl⟩
                rw [hste] at hst hsl1 hsl2 hsl3 hslit
                obtain ⟨slit, sbd, snw⟩ := st
                simp only at hst hsl1 hsl2 hsl3 hslit
                subst hslit
                obtain ⟨asa, csa, rfl, hlx, -, -⟩ := id hsa
                have g : ∀ j v, (litCells x (.slice asa x.atom.args.length csa))[j]? = some v → wc.cell? ⟨b, o + kb * 7 + j, none⟩ = some v := fun j v h => kwx.cell (hcl j v h) (show b < N by have := XhN.out; omega)
                have m0 := g 0 _ rfl
                have m1 := g 1 _ rfl
                have m2 := g 2 _ rfl
                have m3 := g 3 _ rfl
                have m4 := g 4 _ rfl
                have m5 := g 5 _ rfl
                have m6 := g 6 _ rfl
                simp only [Nat.add_zero] at m0
                have hbw : b < wc.heap.size := by have := XhN.out; omega
                have hbN : b < N := by have := XhN.out; omega
                have hkbi : (kb : Int) < body.length := by have := hkb2; simp only at this; omega
                have hkb0 : (0 : Int) ≤ kb := by omega
                clear g hcl hsa hx c0 c1 c2 x3
                have Xhkx := Lib.hid hkx
                have XhTx := Lib.hid hTx
                have XhPx := Lib.hid hPx
                have XhSx := Lib.hid hSx
                have Xhsox := Lib.hid hsox
                have Xkwx := Lib.hid kwx
                have XhKx := Lib.hid hKx
                have Xhst := Lib.hid hst
                have Xhgd := Lib.hid hgd
                have Xhkd := Lib.hid hkd
                have Xhste := Lib.hid hste
                have Xhsl3 := Lib.hid hsl3
                clear hkx hTx hPx hSx hsox kwx hKx hst hgd hkd hste hsl3
                go_wp2_with fail
                refine Xhst.out.mono ?_
                rintro e W6 ⟨vb, vn, rfl, ob, on, k6⟩
                have hz6 := k6.size
                obtain ⟨abx, cbx, rfl⟩ := own_form ob
                obtain ⟨anx, cnx, rfl⟩ := own_form on
                obtain ⟨W7, hW7⟩ : ∃ W7, W6.alloc (.cells #[.int .i64 (kb : Int), .slice abx sbd.length cbx, .slice anx snw.length cnx] 73) = W7 := ⟨_, rfl⟩
                have k7 : Keep (fun _ => True) W6 W7 := by rw [← hW7]; exact Keep.alloc _ _ _
                have z7 : W7.heap.size = W6.heap.size + 1 := by rw [← hW7]; simp
                have bD := new_block W6 (.cells #[.int .i64 (kb : Int), .slice abx sbd.length cbx, .slice anx snw.length cnx] 73)
                rw [hW7] at bD
                obtain ⟨D, hD⟩ : ∃ D, W6.heap.size = D := ⟨_, rfl⟩
                have k67 : Keep (fun b => b < wc.heap.size) wc W7 := k6.trans (k7.mono fun _ _ _ => trivial)
                have hNl7 : N < W7.heap.size := by omega
                have e2 := k67.cell d2 hNx
                have n0 := k67.cell m0 hbw
                have n1 := k67.cell m1 hbw
                have n2 := k67.cell m2 hbw
                have n3 := k67.cell m3 hbw
                have n4 := k67.cell m4 hbw
                have n5 := k67.cell m5 hbw
                have n6 := k67.cell m6 hbw
                have ob7 := own_kept ob k7 (fun _ _ => trivial)
                have on7 := own_kept on k7 (fun _ _ => trivial)
                rw [hD] at bD z7
                have p0 := cells_of_block bD 0 _ rfl
                have p1 := cells_of_block bD 1 _ rfl
                have p2 := cells_of_block bD 2 _ rfl
                simp only [Nat.zero_add] at p0 p1 p2
                have hDl : D < W7.heap.size := by omega
                have hbW7 : b < W7.heap.size := by omega
                have hDx : wc.heap.size ≤ D := by omega
                have kw7 : Keep (fun b => b < N) w W7 := Xkwx.out.trans (k67.mono fun b _ h => by omega)
                have hbh := behind_any W7.drew.heap.size s.rows Xhok.out.row x (.slice asa x.atom.args.length csa) ⟨(kb : Int), sbd, snw⟩ (.slice abx sbd.length cbx) (.slice anx snw.length cnx) l (.slice asl l.length csl) Xhgood.out.2.1 Xhsl3.out Xhkd.out W7.drew ⟨_, _, _, rfl⟩ ⟨_, _, _, rfl⟩
                  (SizesIn.wider (Xhl.out.keep ((kw7.trans (Keep.drew _ _)).mono fun b _ h => by have := XhN.out; omega)) (by have := XhN.out; simp; omega)) (own_ints (own_kept ob7 (Keep.drew (fun _ => True) _) (fun _ _ => trivial)) (by simp only; omega)) (Nat.le_refl _)
                unfold litV stepV at hbh
                simp only at hbh
                clear k6 k7 ob on d0 d1 d2 m0 m1 m2 m3 m4 m5 m6
                have XhW7 := Lib.hid hW7
                have XhD := Lib.hid hD
                have XbD := Lib.hid bD
                have Xk67 := Lib.hid k67
                have Xob7 := Lib.hid ob7
                have Xon7 := Lib.hid on7
                have Xkw7 := Lib.hid kw7
                have Xhbh := Lib.hid hbh
                clear hW7 hD bD k67 ob7 on7 kw7 hbh
                go_wp2_with fail
                rw [XhW7.out, XhD.out]
                go_region_held3 (fun W => W.cell? ⟨b, o + kb * 7, none⟩ = some (.int .i64 x.kind) ∧ W.cell? ⟨b, o + kb * 7 + 1, none⟩ = some (.string x.atom.pred) ∧ W.cell? ⟨b, o + kb * 7 + 2, none⟩ = some (.slice asa x.atom.args.length csa) ∧ W.cell? ⟨b, o + kb * 7 + 3, none⟩ = some (.bool x.left.var) ∧ W.cell? ⟨b, o + kb * 7 + 4, none⟩ = some (.string x.left.text) ∧ W.cell? ⟨b, o + kb * 7 + 5, none⟩ = some (.bool x.right.var) ∧ W.cell? ⟨b, o + kb * 7 + 6, none⟩ = some (.string x.right.text) ∧
              W.cell? ⟨D, 0, none⟩ = some (.int .i64 (kb : Int)) ∧ W.cell? ⟨D, 1, none⟩ = some (.slice abx sbd.length cbx) ∧ W.cell? ⟨D, 2, none⟩ = some (.slice anx snw.length cnx) ∧ W.cell? ⟨N, 2, none⟩ = some (.slice (some ⟨b, o, none⟩) body.length cb))
                  (first | (refine ⟨?_, ?_, ?_, ?_, ?_, ?_, ?_, ?_, ?_, ?_, ?_⟩ <;> assumption) | go_keep)
                  ((go_at_call 40; refine Xhbh.out.mono ?_; rintro e w2 ⟨rfl, hp⟩; have n0' := hp.cell n0 (by simp; omega); have n1' := hp.cell n1 (by simp; omega); have n2' := hp.cell n2 (by simp; omega); have n3' := hp.cell n3 (by simp; omega); have n4' := hp.cell n4 (by simp; omega); have n5' := hp.cell n5 (by simp; omega); have n6' := hp.cell n6 (by simp; omega); have p0' := hp.cell p0 (by simp; omega); have p1' := hp.cell p1 (by simp; omega); have p2' := hp.cell p2 (by simp; omega); have e2' := hp.cell e2 (by simp; omega); have zp := hp.size; simp only [World.size_drew] at zp; clear n0 n1 n2 n3 n4 n5 n6 e2))
                have k72 : Keep (fun b => b < W7.heap.size) W7 w2 := (Keep.drew _ _).trans (hp.mono fun b _ h => h)
                have kx2 : Keep (fun b => b < wc.heap.size) wc w2 := Xk67.out.trans (k72.mono fun b _ h => by omega)
                have hT2 := kx2.heap XhTx.out (by have := heap_lt XhTx.out; exact this)
                have hP2 := kx2.heap XhPx.out (by have := heap_lt XhPx.out; exact this)
                have hS2 := XhSx.out.keep kx2 (by have := XhSx.out.lt; exact this)
                have hso2 := Xhsox.out.keep kx2 (fun b cs t _ h _ => heap_lt h)
                have ob2 := (own_kept Xob7.out k72 (fun b hb => (World.ownsRow.lt Xob7.out b hb).2)).mono (show P + 1 + 1 + 1 ≤ wc.heap.size by omega)
                have on2 := (own_kept Xon7.out k72 (fun b hb => (World.ownsRow.lt Xon7.out b hb).2)).mono (show P + 1 + 1 + 1 ≤ wc.heap.size by omega)
                have bD2 := k72.heap XbD.out hDl
                have hK2 : Keep (fun b => b < P) W3 w2 := XhKx.out.trans (kx2.mono fun b _ h => by omega)
                have htl : kb < (s.taken.map Value.bool).length := by rw [List.length_map, Xhok.out.len]; exact hkb2
                have htc := cells_of_block hT2 kb _ (List.getElem?_eq_getElem htl)
                have htf := box_free hT2 kb
                rw [Nat.zero_add] at htc
                have hTl := heap_lt hT2
                obtain ⟨W9, hW9⟩ : ∃ W9, w2.setCell ⟨P + 1 + 1, kb, none⟩ (.bool true) = W9 := ⟨_, rfl⟩
                have k9 : Keep (fun b => b ≠ P + 1 + 1) w2 W9 := by rw [← hW9]; exact Keep.setCell _ _ _ (by simp)
                have z9 : W9.heap.size = w2.heap.size := by rw [← hW9]; simp [World.setCell]
                have hT9 := set_at kb (.bool true) hT2
                rw [hW9] at hT9
                have hTmap : (s.taken.map Value.bool).toArray.setIfInBounds kb (.bool true) = ((s.taken.set kb true).map Value.bool).toArray := by
                  rw [List.setIfInBounds_toArray, List.map_set]
                rw [hTmap] at hT9
                have hP9 := k9.heap hP2 (by omega)
                have hS9 := hS2.keep k9 (by omega)
                have hso9 := hso2.keep k9 (fun b cs t h _ _ => by omega)
                have ob9 := own_kept ob2 k9 (fun b hb => by have := (World.ownsRow.lt ob2 b hb).1; omega)
                have on9 := own_kept on2 k9 (fun b hb => by have := (World.ownsRow.lt on2 b hb).1; omega)
                have bD9 := k9.heap bD2 (by omega)
                have hK9 : Keep (fun b => b < P) W3 W9 := hK2.trans (k9.mono fun b _ h => by omega)
                clear hp k72 kx2 hT2 hP2 hS2 hso2 ob2 on2 bD2 hK2 p0 p1 p2 k9
                have hlrn := learn_any W9.heap.size (P + 1) s.K ⟨(kb : Int), sbd, snw⟩ (.slice abx sbd.length cbx) (.slice anx snw.length cnx) W9 hS9 (own_strs on9 (by simp only; omega)) (Nat.le_refl _)
                unfold stepV at hlrn
                simp only at hlrn
                have u0 := cells_of_block bD9 0 _ rfl
                have u1' := cells_of_block bD9 1 _ rfl
                have u2' := cells_of_block bD9 2 _ rfl
                simp only [Nat.zero_add] at u0 u1' u2'
                have hDl9 := heap_lt bD9
                have hPl9 := heap_lt hP9
                clear hDl
                have XhT9 := Lib.hid hT9
                have XhP9 := Lib.hid hP9
                have XhS9 := Lib.hid hS9
                have Xhso9 := Lib.hid hso9
                have Xob9 := Lib.hid ob9
                have Xon9 := Lib.hid on9
                have XbD9 := Lib.hid bD9
                have XhK9 := Lib.hid hK9
                have XhW9 := Lib.hid hW9
                have XhTmap := Lib.hid hTmap
                have Xhlrn := Lib.hid hlrn
                clear hT9 hP9 hS9 hso9 ob9 on9 bD9 hK9 hW9 hTmap hlrn
                go_wp2_with fail
                rw [XhW9.out]
                go_wp2_with fail
                refine Xhlrn.out.mono ?_
                rintro e W10 ⟨rfl, hS10, k10⟩
                have hz10 := k10.size
                have hP10 := k10.heap XhP9.out (by omega)
                have hT10 := k10.heap XhT9.out (by omega)
                have hso10 := Xhso9.out.keep k10 (fun b cs t h _ _ => by omega)
                have ob10 := own_kept Xob9.out k10 (fun b hb => by have := (World.ownsRow.lt Xob9.out b hb).1; omega)
                have on10 := own_kept Xon9.out k10 (fun b hb => by have := (World.ownsRow.lt Xon9.out b hb).1; omega)
                have bD10 := k10.heap XbD9.out (by omega)
                have hK10 : Keep (fun b => b < P) W3 W10 := XhK9.out.trans (k10.mono fun b _ h => by omega)
                obtain ⟨v', W11, hr11, hso11, k11⟩ := hso10.snoc ⟨(kb : Int), sbd, snw⟩ _ _ ob10 on10 (by rw [XhStepLen.out]; omega) (by omega)
                obtain ⟨qs10, _, hown10, _⟩ := hso10
                have hob10 : ∀ b, some b = Value.ownBlock (.slice avs s.steps.length cvs) → P + 1 + 1 + 1 ≤ b := fun b hb => (World.ownsRow.lt hown10 b hb.symm).1
                have hP11 := k11.heap hP10 (fun e => by have := hob10 _ e; omega)
                have hT11 := k11.heap hT10 (fun e => by have := hob10 _ e; omega)
                have hS11 := hS10.keep k11 (fun e => by have := hob10 _ e; omega)
                have hK11 : Keep (fun b => b < P) W3 W11 := hK10.trans (k11.mono fun b _ h e => by have := hob10 _ e; omega)
                obtain ⟨av11, cv11, rfl⟩ := hso11.form
                have hlen11 : (s.steps ++ [(⟨(kb : Int), sbd, snw⟩ : StepD)]).length = j + 1 := by rw [List.length_append, XhStepLen.out]; rfl
                rw [hlen11] at hr11
                rw [XhStepLen.out] at hr11
                have t0 := cells_of_block hP11 3 _ rfl
                have t0f := box_free hP11 3
                have t1 := cells_of_block hP10 3 _ rfl
                have v0 := cells_of_block bD10 0 _ rfl
                have v1 := cells_of_block bD10 1 _ rfl
                have v2 := cells_of_block bD10 2 _ rfl
                simp only [Nat.zero_add] at t0 t1 v0 v1 v2
                have hDl10 := heap_lt bD10
                have hPl10 := heap_lt hP10
                have hPl11 := heap_lt hP11
                obtain ⟨W12, hW12⟩ : ∃ W12, W11.setCell ⟨P, 3, none⟩ (.slice av11 (j + 1) cv11) = W12 := ⟨_, rfl⟩
                have k12 : Keep (fun b => b ≠ P) W11 W12 := by rw [← hW12]; exact Keep.setCell _ _ _ (by simp)
                have hz12 := k12.size
                have hz11 := k11.size
                have hP12 := set_at 3 (.slice av11 (j + 1) cv11) hP11
                rw [hW12] at hP12
                simp only [List.setIfInBounds_toArray, List.set_cons_succ, List.set_cons_zero] at hP12
                have hT12 := k12.heap hT11 (by omega)
                have hS12 := hS11.keep k12 (by omega)
                have hso12 := hso11.keep k12 (fun b cs t h _ _ => by omega)
                rw [hlen11] at hso12
                have hK12 : Keep (fun b => b < P) W3 W12 := hK11.trans (k12.mono fun b _ h => by omega)
                have hgo : mkGo ⟨⟨pr, args⟩, body⟩ l first (j + 1) = ⟨learnP s.K snw, s.taken.set kb true, behindD s.rows x sbd l, s.steps ++ [⟨(kb : Int), sbd, snw⟩]⟩ := by
                  show stepM ⟨⟨pr, args⟩, body⟩ l (chooseM ⟨⟨pr, args⟩, body⟩ l first j (mkGo ⟨⟨pr, args⟩, body⟩ l first j)) (mkGo ⟨⟨pr, args⟩, body⟩ l first j) = _
                  rw [Xhs.out, Xhkb1.out]
                  unfold stepM
                  simp only [Int.toNat_natCast]
                  rw [Xhgd.out, Xhste.out]
                have hc12 := cellLen_eq (cells_of_block hP12 3 _ rfl)
                rw [Nat.zero_add] at hc12
                have hc0 := cellLen_eq (cells_of_block XhP1.out 3 _ rfl)
                rw [Nat.zero_add] at hc0
                clear hP10 hT10 hS10 hso11 ob10 on10 bD10 hK10 k11 hown10 hob10 hP11 hT11 hS11 hK11 k12 k10 u0 u1' u2' hlen11
                have Xhr11 := Lib.hid hr11
                have XhW12 := Lib.hid hW12
                have XhP12 := Lib.hid hP12
                have XhT12 := Lib.hid hT12
                have XhS12 := Lib.hid hS12
                have Xhso12 := Lib.hid hso12
                have XhK12 := Lib.hid hK12
                have Xhgo := Lib.hid hgo
                have Xhc12 := Lib.hid hc12
                have Xhc0 := Lib.hid hc0
                clear hr11 hW12 hP12 hT12 hS12 hso12 hK12 hgo hc12 hc0
                go_wp2_with (at_builtin; refine go_app (v := .slice avs j cvs) (u := .slice (some ⟨W10.heap.size, 0, none⟩) 1 1) (v' := .slice av11 (j + 1) cv11) (w' := W11) rfl (.tmp 132) (.tmp 134) 32 rfl rfl rfl Xhr11.out ?_)
                rw [XhW12.out]
                refine ⟨⟨j + 1, _, by omega, by rw [Xhgo.out], XhK12.out, XhP12.out, by rw [Xhgo.out]; exact XhS12.out, by rw [Xhgo.out]; exact XhT12.out, by rw [Xhgo.out]; exact Xhso12.out, by omega⟩, ?_⟩
                rw [Xhc12.out, Xhc0.out]
                omega
          · obtain rfl : j = body.length := by omega
            have x0 := cells_of_block hP1 0 _ rfl
            have x1 := cells_of_block hP1 1 _ rfl
            have x2 := cells_of_block hP1 2 _ rfl
            have ra := hK.heap Xa4.out (show N + 1 < P by omega)
            have r0 := cells_of_block ra 0 _ rfl
            have r1 := cells_of_block ra 1 _ rfl
            have r2 := cells_of_block ra 2 _ rfl
            have r3 := cells_of_block ra 3 _ rfl
            have f0 := box_free ra 0
            have f1 := box_free ra 1
            have f2 := box_free ra 2
            have f3 := box_free ra 3
            simp only [Nat.zero_add] at x0 x1 x2 r0 r1 r2 r3
            have hNw1 : N + 1 < wr.heap.size := heap_lt ra
            have hPe := XhP.out
            have hof := Xho.out.keep (Xk3.out.trans (hK.mono fun b _ h => by omega)) (fun b _ h => h)
            clear a5 hPe
            have XhK := Lib.hid hK
            have XhP1 := Lib.hid hP1
            have XhS := Lib.hid hS
            have XhT := Lib.hid hT
            have Xhso := Lib.hid hso
            have Xhok := Lib.hid hok
            have Xkw := Lib.hid kw
            have Xhs := Lib.hid hs
            have XhStepLen := Lib.hid hStepLen
            have Xra := Lib.hid ra
            have Xhof := Lib.hid hof
            clear hK hP1 hS hT hso hok kw hs hStepLen ra hof
            go_wp2_with fail
            refine bodyPost_ret (v := .tuple #[.agg #[.string pr, .slice avh args.length cvh, .slice avb body.length cvb, .slice avs body.length cvs], .int .i64 0]) (by simp [results, Try.results12, go_sem, r0, r1, r2, r3, hNw1]) rfl ?_
            have kS : Keep (fun b => b ≠ N + 1) wr ((((wr.setCell ⟨N + 1, 0, none⟩ (.string pr)).setCell ⟨N + 1, 1, none⟩ (.slice avh args.length cvh)).setCell ⟨N + 1, 2, none⟩ (.slice avb body.length cvb)).setCell ⟨N + 1, 3, none⟩ (.slice avs body.length cvs)) :=
              (((Keep.setCell _ _ _ (by simp)).trans (Keep.setCell _ _ _ (by simp))).trans (Keep.setCell _ _ _ (by simp))).trans (Keep.setCell _ _ _ (by simp))
            have hNe := XhN.out
            rw [XhM2.out, Xhs.out]
            refine ⟨_, _, _, rfl, ⟨(Xhof.out.keep kS (fun b h _ => by omega)).mono (by omega), ?_⟩, Xkw.out.trans (kS.mono fun b _ h => by omega) |>.mono fun b _ h => by omega⟩
            have := Xhso.out
            rw [XhStepLen.out] at this
            exact (this.keep kS (fun b cs t h _ _ => by omega)).mono (by omega)
      · have hM2 : makeD ⟨⟨pr, args⟩, body⟩ l first = (noPlan, ea) := by
          rw [XhM.out, Xhbad.out, hea, if_pos he0]
        have hne : (ea != 0) = true := bne_iff_ne.2 he0
        clear hea he0
        have XhM2 := Lib.hid hM2
        have Xhk1 := Lib.hid hk1
        clear hM2 hk1
        go_wp2_with fail
        refine Xhk1.out.mono ?_
        rintro e W1 ⟨rfl, k1⟩
        have hz1 := k1.size
        have a2' := k1.heap Xa2.out hNl1
        have r0 := cells_of_block a2' 0 _ rfl
        have r1 := cells_of_block a2' 1 _ rfl
        have r2 := cells_of_block a2' 2 _ rfl
        have r3 := cells_of_block a2' 3 _ rfl
        have f0 := box_free a2' 0
        have f1 := box_free a2' 1
        have f2 := box_free a2' 2
        have f3 := box_free a2' 3
        simp only [Nat.zero_add] at r0 r1 r2 r3
        have hNl2 : N + 1 < W1.heap.size := by omega
        clear a2'
        have Xk1 := Lib.hid k1
        clear k1
        go_wp2_with fail
        refine bodyPost_ret (v := .tuple #[.agg #[.string ⟨#[]⟩, .slice none 0 0, .slice none 0 0, .slice none 0 0], .int .i64 ea]) (by simp [results, Try.results12, go_sem, r0, r1, r2, r3, hNl2]) rfl ?_
        rw [XhM2.out]
        have kS : Keep (fun b => b ≠ N + 1) W1 ((((W1.setCell ⟨N + 1, 0, none⟩ (.string ⟨#[]⟩)).setCell ⟨N + 1, 1, none⟩ (.slice none 0 0)).setCell ⟨N + 1, 2, none⟩ (.slice none 0 0)).setCell ⟨N + 1, 3, none⟩ (.slice none 0 0)) :=
          (((Keep.setCell _ _ _ (by simp)).trans (Keep.setCell _ _ _ (by simp))).trans (Keep.setCell _ _ _ (by simp))).trans (Keep.setCell _ _ _ (by simp))
        exact ⟨_, _, _, rfl, noPlan_own _ _, ((Xk0.out.trans (Xk1.out.mono fun b _ h => by omega)).trans (kS.mono fun b _ h => by omega)).mono fun b _ h => by have := XhN.out; omega⟩
    · have hM2 : makeD ⟨⟨pr, args⟩, body⟩ l first = (noPlan, 2) := by
        have hE : askedD ⟨⟨pr, args⟩, body⟩ l true = 2 := by unfold askedD; rw [Bool.or_true, if_pos rfl]
        rw [XhM.out, Xhbad.out, hE]
        rfl
      have XhM2 := Lib.hid hM2
      clear hM2
      go_wp2_with fail
      refine bodyPost_ret (v := .tuple #[.agg #[.string ⟨#[]⟩, .slice none 0 0, .slice none 0 0, .slice none 0 0], .int .i64 2]) (by simp [results, Try.results12, go_sem, r0, r1, r2, r3, hNl1]) rfl ?_
      rw [XhM2.out]
      have kS : Keep (fun b => b ≠ N + 1) wc ((((wc.setCell ⟨N + 1, 0, none⟩ (.string ⟨#[]⟩)).setCell ⟨N + 1, 1, none⟩ (.slice none 0 0)).setCell ⟨N + 1, 2, none⟩ (.slice none 0 0)).setCell ⟨N + 1, 3, none⟩ (.slice none 0 0)) :=
        (((Keep.setCell _ _ _ (by simp)).trans (Keep.setCell _ _ _ (by simp))).trans (Keep.setCell _ _ _ (by simp))).trans (Keep.setCell _ _ _ (by simp))
      exact ⟨_, _, _, rfl, noPlan_own _ _, (Xk0.out.trans (kS.mono fun b _ h => by omega)).mono fun b _ h => by have := XhN.out; omega⟩
end Go.Proofs
