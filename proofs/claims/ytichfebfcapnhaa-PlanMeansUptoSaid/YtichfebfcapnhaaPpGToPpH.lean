/- Layer 16 (plan): the document's SameSteps: are two lists of steps the same. -/
import Derived.Test.YtichfebfcapnhaaProg
import Derived.Test.YtichfebfcapnhaaPnX
import Derived.Test.YtichfebfcapnhaaPpFToPpGq
import Derived.BigQuiet
import Derived.Test.YtichfebfcapnhaaPnY
import Derived.Test.YtichfebfcapnhaaPnRToPnS
namespace Go.Proofs
open Go.RowKit Go.Ink
set_option linter.unusedVariables false
set_option linter.unusedSimpArgs false
attribute [local go_sem] Oper.semAt_some

set_option maxRecDepth 100000 in
set_option maxHeartbeats 2000000 in
theorem refSameSteps_any (n : Nat) (va vb : Value) (xs ys : List StepD) (w : World) (ha : StepsIn n w va xs) (hb : StepsIn n w vb ys) (hn : n ≤ w.heap.size) :
    Calls Try.prog 47 #[va, vb] w fun e w' => e = .returned (.bool (decide (xs = ys))) ∧ Keep (fun _ => True) w w' := by
  obtain ⟨aa, ca, rfl, hla, hca, hea⟩ := id ha
  obtain ⟨ab, cb, rfl, hlb, hcb, heb⟩ := id hb
  have Xhea := Lib.hid hea
  have Xheb := Lib.hid heb
  have Xha := Lib.hid ha
  have Xhb := Lib.hid hb
  clear hea heb ha hb
  go_enter Try.func47, Try.ntmps47
  by_cases hl : xs.length = ys.length
  · have hl1 : ((xs.length : Int) != ys.length) = false := by simp [hl]
    have Xhl := Lib.hid hl
    clear hl
    go_wp2_with fail
    go_loopw [5] (fun i' wr => ∃ k : Nat, k ≤ xs.length ∧ i' = .int .i64 (k : Int) ∧ Keep (fun _ => True) w wr ∧ ∀ j, j < k → xs[j]? = ys[j]?) (fun i _ => xs.length - (intOf i).toNat)
    case atStart => exact ⟨0, by omega, rfl, Keep.refl _ _, fun j h => by omega⟩
    case round =>
      obtain ⟨k, hk, rfl, hK, hall⟩ := hrel
      have hsz := hK.size
      by_cases hlt : k < xs.length
      · have hlt1 : (k : Int) < xs.length := by omega
        have hlt2 : (k : Int) < ys.length := by have := Xhl.out; omega
        have hk0 : (0 : Int) ≤ k := by omega
        obtain ⟨x, hx⟩ : ∃ x, xs[k]? = some x := ⟨_, List.getElem?_eq_getElem hlt⟩
        obtain ⟨y, hy⟩ : ∃ y, ys[k]? = some y := ⟨_, List.getElem?_eq_getElem (by omega)⟩
        obtain ⟨b4, o4, rfl, hb4, dv, fv, hc4, hd4, hf4⟩ := Xhea.out k x hx
        obtain ⟨b5, o5, rfl, hb5, ev, gv, hc5, hd5, hf5⟩ := Xheb.out k y hy
        have a0 := hK.cell (hc4 0 _ rfl) trivial
        have a1 := hK.cell (hc4 1 _ rfl) trivial
        have a2 := hK.cell (hc4 2 _ rfl) trivial
        have e0 := hK.cell (hc5 0 _ rfl) trivial
        have e1 := hK.cell (hc5 1 _ rfl) trivial
        have e2 := hK.cell (hc5 2 _ rfl) trivial
        simp only [Nat.add_zero] at a0 e0
        have hb4w : b4 < wr.heap.size := by omega
        have hb5w : b5 < wr.heap.size := by omega
        have hsi := fun q => refSameInts_q n dv ev x.bound y.bound (wr.drewN q) (ints_kept hd4 ((hK.trans (Keep.drewN' _ _ _)).mono fun _ _ _ => trivial)) (ints_kept hd5 ((hK.trans (Keep.drewN' _ _ _)).mono fun _ _ _ => trivial)) (by simp; omega)
        have hst := fun q => refSameTexts_q n fv gv x.new y.new (wr.drewN q) (strs_kept hf4 ((hK.trans (Keep.drewN' _ _ _)).mono fun _ _ _ => trivial)) (strs_kept hf5 ((hK.trans (Keep.drewN' _ _ _)).mono fun _ _ _ => trivial)) (by simp; omega)
        obtain ⟨ad, cd, rfl, -, -, -⟩ := id hd4
        obtain ⟨ae, ce, rfl, -, -, -⟩ := id hd5
        obtain ⟨af, cf, rfl, -, -, -⟩ := id hf4
        obtain ⟨ag, cg, rfl, -, -, -⟩ := id hf5
        obtain ⟨xl, xb, xn⟩ := x
        obtain ⟨yl, yb, yn⟩ := y
        simp only at a0 a1 a2 e0 e1 e2 hsi hst
        have hno : ∀ (h : ¬(⟨xl, xb, xn⟩ : StepD) = ⟨yl, yb, yn⟩), decide (xs = ys) = false := fun h => by
          simp only [decide_eq_false_iff_not]
          intro e; subst e; rw [hx] at hy; cases hy; exact h rfl
        have hyes : (⟨xl, xb, xn⟩ : StepD) = ⟨yl, yb, yn⟩ → ∀ j, j < k + 1 → xs[j]? = ys[j]? := fun h j hj => by
          rcases Nat.lt_succ_iff_lt_or_eq.1 hj with h2 | rfl
          · exact hall j h2
          · rw [hx, hy, h]
        clear hall hx hy hc4 hc5 hd4 hd5 hf4 hf5 hl1
        have Xhno := Lib.hid hno
        have Xhyes := Lib.hid hyes
        clear hno hyes
        by_cases h1 : xl = yl
        · have hne : (xl != yl) = false := by simp [h1]
          obtain ⟨c1b, hc1b⟩ : ∃ b, decide (xb = yb) = b := ⟨_, rfl⟩
          obtain ⟨c2b, hc2b⟩ : ∃ b, decide (xn = yn) = b := ⟨_, rfl⟩
          simp only [hc1b] at hsi
          simp only [hc2b] at hst
          cases c1b
          · have hF := Xhno.out (fun h => by cases h; simp at hc1b)
            clear h1 hc1b hc2b
            have XhF := Lib.hid hF
            have XhK := Lib.hid hK
            have Xhsi := Lib.hid hsi
            have Xhst := Lib.hid hst
            clear hF hK hsi hst
            go_wp2_with fail
            go_quiet ((first | (go_at_call 35; exact Calls.quiet_of (Xhsi.out _)) | (go_at_call 78; exact Calls.quiet_of (Xhst.out _))))
            go_wp2_with fail
            go_ret
            exact ⟨by rw [XhF.out]; try rfl, XhK.out.trans (Keep.drewN' _ _ _)⟩
          · cases c2b
            · have hF := Xhno.out (fun h => by cases h; simp at hc2b)
              clear h1 hc1b hc2b
              have XhF := Lib.hid hF
              have XhK := Lib.hid hK
              have Xhsi := Lib.hid hsi
              have Xhst := Lib.hid hst
              clear hF hK hsi hst
              go_wp2_with fail
              go_quiet ((first | (go_at_call 35; exact Calls.quiet_of (Xhsi.out _)) | (go_at_call 78; exact Calls.quiet_of (Xhst.out _))))
              go_wp2_with fail
              go_ret
              exact ⟨by rw [XhF.out]; try rfl, XhK.out.trans (Keep.drewN' _ _ _)⟩
            · have hY := Xhyes.out (by rw [h1, of_decide_eq_true hc1b, of_decide_eq_true hc2b])
              clear h1 hc1b hc2b
              have XhY := Lib.hid hY
              have XhK := Lib.hid hK
              have Xhsi := Lib.hid hsi
              have Xhst := Lib.hid hst
              clear hY hK hsi hst
              go_wp2_with fail
              go_quiet ((first | (go_at_call 35; exact Calls.quiet_of (Xhsi.out _)) | (go_at_call 78; exact Calls.quiet_of (Xhst.out _))))
              go_wp2_with fail
              go_roundw
              case rel => exact ⟨k + 1, by omega, by go_num, XhK.out.trans (Keep.drewN' _ _ _), XhY.out⟩
              case measure => simp [intOf]; omega
        · have hne : (xl != yl) = true := by simp [h1]
          have hF := Xhno.out (fun h => by cases h; exact h1 rfl)
          clear h1 hsi hst
          have XhF := Lib.hid hF
          have XhK := Lib.hid hK
          clear hF hK
          go_wp2_with fail
          go_quiet (fail)
          go_wp2_with fail
          go_ret
          exact ⟨by rw [XhF.out]; try rfl, XhK.out.trans (Keep.drewN' _ _ _)⟩
      · have hyes : decide (xs = ys) = true := by
          simp only [decide_eq_true_eq]
          exact eq_at Xhl.out fun j hj => hall j (by omega)
        clear hall
        have Xhyes := Lib.hid hyes
        have XhK := Lib.hid hK
        clear hyes hK
        go_wp2_with fail
        go_ret
        exact ⟨by rw [Xhyes.out]; try rfl, XhK.out⟩
  · have hl1 : ((xs.length : Int) != ys.length) = true := by simp; omega
    have hno : decide (xs = ys) = false := by
      simp only [decide_eq_false_iff_not]
      intro e; exact hl (by rw [e])
    clear hl
    have Xhno := Lib.hid hno
    clear hno
    go_wp2_with fail
    go_ret
    exact ⟨by rw [Xhno.out]; try rfl, Keep.refl _ _⟩
end Go.Proofs

/- Layer 16 (plan): the plan of an order, as plain data; steps in memory apart from what is known. No walk. -/
namespace Go.Proofs
open Go.RowKit Go.Ink Go.Flt
set_option linter.unusedVariables false
set_option linter.unusedSimpArgs false

/-- one literal more: what is known, taken, the steps -/
def plOne (ls : List LitD) (n : Int) (s : List ByteArray × List Bool × List StepD) : Option (List ByteArray × List Bool × List StepD) :=
  if 0 ≤ n ∧ n < (ls.length : Int) ∧ s.2.1.getD n.toNat true = false ∧ readyP s.1 (ls.getD n.toNat default) = true then
    some (s.1 ++ (stepP s.1 (ls.getD n.toNat default) n).new, s.2.1.set n.toNat true, s.2.2 ++ [stepP s.1 (ls.getD n.toNat default) n])
  else none
def plSt (ls : List LitD) (ord : List Int) : Nat → Option (List ByteArray × List Bool × List StepD)
  | 0 => some ([], List.replicate ls.length false, [])
  | k + 1 => (plSt ls ord k).bind (plOne ls (ord.getD k default))
/-- the steps of the plan that looks at the literals in that order -/
def plannedP (ls : List LitD) (ord : List Int) : Option (List StepD) := if ord.length = ls.length then (plSt ls ord ord.length).map (·.2.2) else none
theorem plSt_none {ls : List LitD} {ord : List Int} {k : Nat} (h : plSt ls ord k = none) : ∀ j, k ≤ j → plSt ls ord j = none := by
  intro j hj
  induction j with
  | zero => rwa [show k = 0 by omega] at h
  | succ j ih =>
    rcases Nat.lt_or_ge j k with hl | hg
    · rwa [show k = j + 1 by omega] at h
    · show (plSt ls ord j).bind _ = none
      rw [ih hg]; rfl
theorem plOne_some {ls : List LitD} {n : Int} {s t : List ByteArray × List Bool × List StepD} (h : plOne ls n s = some t) :
    0 ≤ n ∧ n < (ls.length : Int) ∧ s.2.1.getD n.toNat true = false ∧ readyP s.1 (ls.getD n.toNat default) = true ∧
      t = (s.1 ++ (stepP s.1 (ls.getD n.toNat default) n).new, s.2.1.set n.toNat true, s.2.2 ++ [stepP s.1 (ls.getD n.toNat default) n]) := by
  unfold plOne at h
  split at h
  · rename_i h1
    cases h
    exact ⟨h1.1, h1.2.1, h1.2.2.1, h1.2.2.2, rfl⟩
  · cases h
theorem formed_new {r : RuleD} (h : formedB r = true) {L : LitD} (hL : L ∈ r.body) (K : List ByteArray) (i : Int) : (stepP K L i).new.length ≤ 16 := by
  unfold formedB at h
  rw [Bool.and_eq_true, Bool.and_eq_true, decide_eq_true_eq, List.all_eq_true] at h
  have h2 := h.2 L hL
  unfold litB at h2
  by_cases h12 : L.kind = 1 ∨ L.kind = 2
  · rw [if_pos h12, Bool.and_eq_true, Bool.and_eq_true] at h2
    have h3 := h2.1.1
    unfold atomB at h3
    rw [Bool.and_eq_true, Bool.and_eq_true, decide_eq_true_eq] at h3
    have := (step_len K L i).2.1
    omega
  · have h3 : L.kind = 3 := by
      rw [if_neg h12] at h2
      by_cases h3 : L.kind = 3
      · exact h3
      · rw [if_neg h3] at h2; cases h2
    unfold stepP
    rw [if_pos h3]
    simp
theorem plSt_len {r : RuleD} (hF : formedB r = true) {ord : List Int} (k : Nat) : ∀ s, plSt r.body ord k = some s → s.1.length ≤ 16 * k ∧ s.2.1.length = r.body.length ∧ s.2.2.length = k := by
  induction k with
  | zero => intro s h; cases h; simp
  | succ k ih =>
    intro s h
    change (plSt r.body ord k).bind _ = some s at h
    cases hk : plSt r.body ord k with
    | none => rw [hk] at h; cases h
    | some t =>
      rw [hk] at h
      obtain ⟨h1, h2, h3⟩ := ih t hk
      obtain ⟨g1, g2, g3, g4, rfl⟩ := plOne_some h
      have hm : r.body.getD (ord.getD k default).toNat default ∈ r.body := by
        rw [List.getD_eq_getElem?_getD, List.getElem?_eq_getElem (show (ord.getD k default).toNat < r.body.length by omega)]
        exact List.getElem_mem _
      have := formed_new hF hm t.1 (ord.getD k default)
      refine ⟨?_, ?_, ?_⟩
      · simp only [List.length_append]; omega
      · simp only [List.length_set]; exact h2
      · simp only [List.length_append, List.length_singleton]; omega
theorem plSt_sized {r : RuleD} (hF : sizedR r) {ord : List Int} (k : Nat) : ∀ s, plSt r.body ord k = some s → ∀ x, x ∈ s.2.2 → x.bound.length ≤ 1073741824 ∧ x.new.length ≤ 1073741824 := by
  induction k with
  | zero => intro s h; cases h; simp
  | succ k ih =>
    intro s h
    change (plSt r.body ord k).bind _ = some s at h
    cases hk : plSt r.body ord k with
    | none => rw [hk] at h; cases h
    | some t =>
      rw [hk] at h
      have hi := ih t hk
      obtain ⟨g1, g2, g3, g4, rfl⟩ := plOne_some h
      have hm : r.body.getD (ord.getD k default).toNat default ∈ r.body := by
        rw [List.getD_eq_getElem?_getD, List.getElem?_eq_getElem (show (ord.getD k default).toNat < r.body.length by omega)]
        exact List.getElem_mem _
      intro x hx
      rcases List.mem_append.1 hx with hx | hx
      · exact hi x hx
      · simp only [List.mem_singleton] at hx
        subst hx
        have h1 := step_len t.1 (r.body.getD (ord.getD k default).toNat default) (ord.getD k default)
        have h2 := hF.2.2 _ hm
        omega
theorem planned_sized {r : RuleD} (hF : sizedR r) {ord : List Int} {ss : List StepD} (h : plannedP r.body ord = some ss) (hfm : formedB r = true) : sizedS ss := by
  unfold plannedP at h
  split at h
  · rename_i hl
    obtain ⟨s, hs, rfl⟩ := Option.map_eq_some_iff.1 h
    refine ⟨?_, plSt_sized hF _ s hs⟩
    rw [(plSt_len hfm _ s hs).2.2]
    have := hF.2.1
    omega
  · cases h
theorem right_planned {ls : List LitD} {ss : List StepD} (hl : ss.length = ls.length) (k : Nat) (hk : k ≤ ss.length) : ∀ K tk, rightSt ls ss k = some (K, tk) ↔ plSt ls (ss.map StepD.lit) k = some (K, tk, ss.take k) := by
  induction k with
  | zero =>
    intro K tk
    simp only [rightSt, plSt, List.take_zero, hl, Option.some.injEq, Prod.mk.injEq, and_true]
  | succ k ih =>
    have ih := ih (by omega)
    obtain ⟨x, hx⟩ : ∃ x, ss[k]? = some x := ⟨_, List.getElem?_eq_getElem (by omega)⟩
    have hg : ss.getD k default = x := by rw [List.getD_eq_getElem?_getD, hx]; rfl
    have hg2 : (ss.map StepD.lit).getD k default = x.lit := by rw [List.getD_eq_getElem?_getD, List.getElem?_map, hx]; rfl
    have htk : ss.take (k + 1) = ss.take k ++ [x] := by rw [List.take_add_one, hx]; rfl
    intro K tk
    show (rightSt ls ss k).bind (rightOne ls (ss.getD k default)) = _ ↔ (plSt ls (ss.map StepD.lit) k).bind (plOne ls ((ss.map StepD.lit).getD k default)) = _
    rw [hg, hg2]
    constructor
    · intro h
      cases hk1 : rightSt ls ss k with
      | none => rw [hk1] at h; cases h
      | some s =>
        obtain ⟨K1, t1⟩ := s
        rw [hk1] at h
        have hlen := rightSt_len k _ hk1
        rw [(ih K1 t1).1 hk1]
        simp only [Option.bind_some] at h ⊢
        simp only at hlen
        unfold rightOne at h
        split at h
        · rename_i h1
          split at h
          · rename_i h2
            cases h
            simp only at h1 h2
            have hxe : x = stepP K1 (ls.getD x.lit.toNat default) x.lit := by
              obtain ⟨a, b, c⟩ := x
              have := step_lit K1 (ls.getD a.toNat default) a
              simp only at h2 ⊢
              generalize stepP K1 (ls.getD a.toNat default) a = y at *
              obtain ⟨a', b', c'⟩ := y
              simp only at this h2
              rw [this, h2.1, h2.2]
            unfold plOne
            rw [if_pos ⟨h1.1, by omega, h1.2.2.1, h1.2.2.2⟩]
            simp only
            rw [← hxe, htk]
            congr 2
            rw [h2.2]
            exact (learn_step K1 _ _).symm
          · cases h
        · cases h
    · intro h
      cases hk1 : plSt ls (ss.map StepD.lit) k with
      | none => rw [hk1] at h; cases h
      | some s =>
        obtain ⟨K1, t1, st⟩ := s
        rw [hk1] at h
        simp only [Option.bind_some] at h
        obtain ⟨g1, g2, g3, g4, he⟩ := plOne_some h
        simp only [Prod.mk.injEq] at he g3 g4
        obtain ⟨rfl, rfl, he3⟩ := he
        rw [htk] at he3
        obtain ⟨e1, e2⟩ := List.append_inj' he3 rfl
        have e2 : x = stepP K1 (ls.getD x.lit.toNat default) x.lit := by simpa using e2
        subst e1
        have hr := (ih K1 t1).2 hk1
        have hlen := rightSt_len k _ hr
        simp only at hlen
        rw [hr]
        simp only [Option.bind_some]
        unfold rightOne
        rw [if_pos ⟨g1, by simp only; omega, g3, g4⟩]
        simp only
        rw [← e2, if_pos ⟨rfl, rfl⟩]
        have := learn_step K1 (ls.getD x.lit.toNat default) x.lit
        rw [← e2] at this
        rw [this]
theorem right_same (p : PlanD) : rightB p = (formedB p.rule && decide (plannedP p.rule.body (p.steps.map StepD.lit) = some p.steps)) := by
  unfold rightB plannedP
  rw [Bool.and_assoc, List.length_map]
  congr 1
  by_cases hl : p.steps.length = p.rule.body.length
  · rw [decide_eq_true hl, Bool.true_and, if_pos hl]
    have h := right_planned hl p.steps.length (Nat.le_refl _)
    rw [List.take_length] at h
    cases hr : rightSt p.rule.body p.steps p.steps.length with
    | none =>
      symm
      rw [Option.isSome_none, decide_eq_false_iff_not]
      intro he
      obtain ⟨s, hs, hse⟩ := Option.map_eq_some_iff.1 he
      obtain ⟨K, tk, st⟩ := s
      simp only at hse
      subst hse
      rw [(h K tk).2 hs] at hr
      cases hr
    | some s =>
      obtain ⟨K, tk⟩ := s
      symm
      rw [Option.isSome_some, decide_eq_true_eq, (h K tk).1 hr]
      rfl
  · rw [decide_eq_false hl, Bool.false_and, if_neg hl]
    simp

/-- steps of one's own whose variables' lists do not lie in the block of vk -/
def StepsK (base : Nat) (w : World) (v : Value) (ss : List StepD) (vk : Value) : Prop :=
  ∃ qs : List (StepD × Value × Value), qs.map (·.1) = ss ∧ w.ownsRow base 73 3 v ss.length (qs.flatMap stepC) ∧
    ∀ q, q ∈ qs → w.ownsRow base 3 1 q.2.1 q.1.bound.length (q.1.bound.map (.int .i64)) ∧ w.ownsRow base 9 1 q.2.2 q.1.new.length (q.1.new.map .string) ∧ ∀ b, q.2.2.ownBlock = some b → vk.ownBlock ≠ some b
theorem StepsK.own {base : Nat} {w : World} {v vk : Value} {ss : List StepD} (h : StepsK base w v ss vk) : StepsOwn base w v ss := by
  obtain ⟨qs, hq, ho, hall⟩ := h
  exact ⟨qs, hq, ho, fun q hm => ⟨(hall q hm).1, (hall q hm).2.1⟩⟩
theorem StepsK.nil (base : Nat) (w : World) (vk : Value) : StepsK base w (.slice none 0 0) [] vk := ⟨[], rfl, World.ownsRow_nil _ _ _ _, by simp⟩
theorem StepsK.keep {base : Nat} {w w' : World} {v vk : Value} {ss : List StepD} {C : Nat → Prop} (h : StepsK base w v ss vk) (hK : Keep C w w') (hC : ∀ b cs t, base ≤ b → w.heap[b]? = some (.cells cs t (0, 0)) → t = 73 ∨ t = 3 ∨ t = 9 → C b) : StepsK base w' v ss vk := by
  obtain ⟨qs, hq, ho, hall⟩ := h
  refine ⟨qs, hq, own_kept ho hK (fun b hb => ?_), fun q hm => ⟨own_kept (hall q hm).1 hK (fun b hb => ?_), own_kept (hall q hm).2.1 hK (fun b hb => ?_), (hall q hm).2.2⟩⟩
  · obtain ⟨cs, ht⟩ := own_typed ho hb
    exact hC b cs _ (World.ownsRow.lt ho b hb).1 ht (.inl rfl)
  · obtain ⟨cs, ht⟩ := own_typed (hall q hm).1 hb
    exact hC b cs _ (World.ownsRow.lt (hall q hm).1 b hb).1 ht (.inr (.inl rfl))
  · obtain ⟨cs, ht⟩ := own_typed (hall q hm).2.1 hb
    exact hC b cs _ (World.ownsRow.lt (hall q hm).2.1 b hb).1 ht (.inr (.inr rfl))
/-- what is known is appended to -/
theorem StepsK.known {base base2 : Nat} {w w' : World} {v vk vk' : Value} {ss : List StepD} {m : Nat} {xs : List Value} (h : StepsK base w v ss vk) (hk : w.ownsRow base2 9 1 vk m xs)
    (hg : ∀ g, vk'.ownBlock = some g → vk.ownBlock = some g ∨ w.heap.size ≤ g) (hK : Keep (fun b => vk'.ownBlock ≠ some b) w w') : StepsK base w' v ss vk' := by
  obtain ⟨qs, hq, ho, hall⟩ := h
  have hoth : ∀ {e sz : Nat} {u : Value} {m : Nat} {xs : List Value}, w.ownsRow base e sz u m xs → e ≠ 9 → w'.ownsRow base e sz u m xs := fun ho3 he => own_kept ho3 hK (fun b hb e2 => by
    rcases hg b e2 with h1 | h1
    · obtain ⟨c1, t1⟩ := own_typed ho3 hb
      obtain ⟨c2, t2⟩ := own_typed hk h1
      rw [t1] at t2
      cases t2
      exact he rfl
    · have := (World.ownsRow.lt ho3 b hb).2; omega)
  have hoff : ∀ q, q ∈ qs → ∀ b, q.2.2.ownBlock = some b → vk'.ownBlock ≠ some b := fun q hm b hb e2 => by
    rcases hg b e2 with h1 | h1
    · exact (hall q hm).2.2 b hb h1
    · have := (World.ownsRow.lt (hall q hm).2.1 b hb).2; omega
  exact ⟨qs, hq, hoth ho (by decide), fun q hm => ⟨hoth (hall q hm).1 (by decide), own_kept (hall q hm).2.1 hK (fun b hb => hoff q hm b hb), hoff q hm⟩⟩
/-- a step more -/
theorem StepsK.snoc {base : Nat} {w : World} {v vk : Value} {ss : List StepD} (h : StepsK base w v ss vk) (s : StepD) (vb vn : Value) (hb : w.ownsRow base 3 1 vb s.bound.length (s.bound.map (.int .i64))) (hn : w.ownsRow base 9 1 vn s.new.length (s.new.map .string)) (hoff : ∀ b, vn.ownBlock = some b → vk.ownBlock ≠ some b) (hl : ss.length ≤ 1073741824) (hbase : base ≤ w.heap.size) :
    ∃ v' w', (Builtin.append_ #[32, 32] 32 #[v, .slice (some ⟨w.heap.size, 0, none⟩) 1 1]).run Try.prog (w.alloc (.cells #[.int .i64 s.lit, vb, vn] 73)) = .ok v' w' ∧ StepsK base w' v' (ss ++ [s]) vk ∧ Keep (fun b => some b ≠ v.ownBlock) w w' := by
  obtain ⟨qs, hq, ho, hall⟩ := h
  obtain ⟨ab, cb, hvb⟩ := own_form hb
  obtain ⟨an, cn, hvn⟩ := own_form hn
  obtain ⟨v', w', hr, ho2, hk, g, cap, hv, hg, hl2⟩ := app1 (P := Try.prog) el_steps 32 ho [.int .i64 s.lit, vb, vn] rfl (by rw [hvb, hvn]; simp [Value.oneCell']) (by omega) hbase
  refine ⟨v', w', hr, ⟨qs ++ [(s, vb, vn)], by rw [List.map_append, hq]; rfl, by rw [List.length_append, List.flatMap_append]; simpa [stepC] using ho2, fun q hm => ?_⟩, hk⟩
  have hoth : ∀ {e sz : Nat} {u : Value} {m : Nat} {xs : List Value}, w.ownsRow base e sz u m xs → e ≠ 73 → w'.ownsRow base e sz u m xs := fun ho3 he => own_kept ho3 hk (fun b hb e2 => by
    obtain ⟨c1, t1⟩ := own_typed ho3 hb
    obtain ⟨c2, t2⟩ := own_typed ho e2.symm
    rw [t1] at t2
    cases t2
    exact he rfl)
  rcases List.mem_append.1 hm with hm | hm
  · exact ⟨hoth (hall q hm).1 (by decide), hoth (hall q hm).2.1 (by decide), (hall q hm).2.2⟩
  · simp only [List.mem_singleton] at hm
    subst hm
    exact ⟨hoth hb (by decide), hoth hn (by decide), hoff⟩
end Go.Proofs
