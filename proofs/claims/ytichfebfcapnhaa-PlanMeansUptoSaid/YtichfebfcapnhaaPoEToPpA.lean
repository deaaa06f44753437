/- Layer 16 (plan): known. -/
import Derived.Test.YtichfebfcapnhaaProg
import Derived.Test.YtichfebfcapnhaaPoCToPoD
import Derived.Test.YtichfebfcapnhaaPnJ
import Derived.Deep.RegionHeld3
import Derived.Test.YtichfebfcapnhaaRows
import Derived.WalkKit
import Derived.ProofKit
import Derived.OpenShut
import Derived.Carry
import Derived.Test.YtichfebfcapnhaaPnHToPnI
namespace Go.Proofs
open Go.RowKit Go.Ink Go.Flt
set_option linter.unusedVariables false
set_option linter.unusedSimpArgs false
attribute [local go_sem] Oper.semAt_some

theorem pos_head (w : World) : Calls Try.prog 34 #[.string ⟨#[104]⟩, .slice (some ⟨w.heap.size, 0, none⟩) 1 1] (w.alloc (.cells #[.string ⟨#[88]⟩] 9)) fun e w' => ∃ a c, e = .returned (.agg #[.int .i64 1, .string ⟨#[104]⟩, .slice a 1 c, .bool false, .string ⟨#[]⟩, .bool false, .string ⟨#[]⟩]) ∧ TermsIn w'.heap.size w' (.slice a 1 c) [termOf ⟨#[88]⟩] ∧ Keep (fun _ => True) w w' := by
  refine (pos_new ⟨#[104]⟩ [⟨#[88]⟩] w (by decide) (by decide)).mono ?_
  rintro e w' ⟨a, c, rfl, ho, hk⟩
  exact ⟨a, c, rfl, own_terms (ts := [termOf ⟨#[88]⟩]) ho rfl (by simp), hk⟩
theorem make_none (w : World) (a : Option Addr) (c : Nat) (h : TermsIn w.heap.size w (.slice a 1 c) [termOf ⟨#[88]⟩]) : Calls Try.prog 12 #[.agg #[.string ⟨#[104]⟩, .slice a 1 c, .slice none 0 0], .slice none 0 0, .int .i64 (-1)] w fun e w' => ∃ ah ch ab cb aq cs, e = .returned (.tuple #[.agg #[.string ⟨#[]⟩, .slice ah 0 ch, .slice ab 0 cb, .slice aq 0 cs], .int .i64 14]) ∧ Keep (fun b => b < w.heap.size) w w' := by
  have hm := make_any w.heap.size ⟨ruleS.head, []⟩ (.slice a 1 c) (.slice none 0 0) [] (.slice none 0 0) (-1) w ⟨h, ⟨none, 0, rfl, by decide, ⟨Nat.le_refl _, by decide⟩, fun k x h => by cases h⟩⟩ ⟨none, 0, rfl, by decide, ⟨Nat.le_refl _, by decide⟩, fun k x h => by cases h⟩ (Nat.le_refl _)
  rw [planL_none] at hm
  refine hm.mono ?_
  rintro e w' ⟨vh, vb, vs, rfl, ho, hk⟩
  obtain ⟨ah, ch, rfl⟩ := own_form ho.1.1
  obtain ⟨ab, cb, rfl⟩ : ∃ a c, vb = .slice a 0 c := by
    obtain ⟨q, hq, h, _⟩ := ho.1.2
    exact own_form h
  obtain ⟨aq, cs, rfl⟩ := ho.2.form
  exact ⟨ah, ch, ab, cb, aq, cs, rfl, hk⟩

set_option maxRecDepth 100000 in
set_option maxHeartbeats 2000000 in
theorem known_any (w : World) : Calls Try.prog 9 #[] w fun e w' => e = .returned (.bool true) ∧ Keep (fun b => b < w.heap.size) w w' := by
  have hM := planL_made
  have hD := planL_rows
  have hE := planL_err
  have hR := planL_right
  have hL := planL_lits
  have hO := fun (base : Nat) (w : World) (vh vb vs : Value) => @planL_own base w vh vb vs
  have hsm := lawSmall_any w
  obtain ⟨R, hRR⟩ : ∃ R, ruleS = R := ⟨_, rfl⟩
  obtain ⟨P, hPP⟩ : ∃ P, planL = P := ⟨_, rfl⟩
  have hsz := fun W => lawSizes_any W
  obtain ⟨Z, hZZ⟩ : ∃ Z, sizesL = Z := ⟨_, rfl⟩
  rw [hRR] at hM hsm
  rw [hPP] at hM hD hE hR hL
  rw [hZZ] at hM hD hE
  simp only [hPP] at hO
  simp only [hZZ] at hsz
  have XhM := Lib.hid hM
  have XhD := Lib.hid hD
  have XhE := Lib.hid hE
  have XhR := Lib.hid hR
  have XhL := Lib.hid hL
  have XhO := Lib.hid hO
  have Xhsm := Lib.hid hsm
  have Xhsz := Lib.hid hsz
  have XhRR := Lib.hid hRR
  have XhPP := Lib.hid hPP
  have XhZZ := Lib.hid hZZ
  clear hM hD hE hR hL hO hsm hsz hRR hPP hZZ
  go_enter Try.func9, Try.ntmps9
  go_wp2_with fail
  refine Xhsm.out.mono ?_
  rintro e W1 ⟨vh, vb, rfl, ir, k1⟩
  have hz1 := Xhsz.out W1
  have Xir := Lib.hid ir
  have Xk1 := Lib.hid k1
  have Xhz1 := Lib.hid hz1
  clear ir k1 hz1
  go_wp2_with fail
  refine Xhz1.out.mono ?_
  rintro e W2 ⟨sv, rfl, is, k2⟩
  have z2 := k2.size
  have ir2 := (Xir.out.keep k2).wider z2
  have hmk := make_any _ R vh vb Z sv (-1) W2 ir2 is (Nat.le_refl _)
  rw [XhM.out] at hmk
  simp only at hmk
  have Xk2 := Lib.hid k2
  have Xis := Lib.hid is
  have Xhmk := Lib.hid hmk
  clear k2 is hmk
  go_wp2_with fail
  refine Xhmk.out.mono ?_
  rintro e W3 ⟨ph, pb, ps, rfl, po, k3⟩
  obtain ⟨avh, cvh, rfl⟩ := own_form po.1.1
  obtain ⟨avb, cvb, rfl⟩ : ∃ a c, pb = .slice a P.rule.body.length c := by
    obtain ⟨q, hq, h, _⟩ := po.1.2
    exact own_form h
  obtain ⟨avs, cvs, rfl⟩ := po.2.form
  have pi := XhO.out _ _ _ _ _ po
  have z3 := k3.size
  have kw3 : Keep (fun b => b < w.heap.size) w W3 := (Xk1.out.trans (Xk2.out.mono fun b _ h => by have := Xk1.out.size; omega)).trans (k3.mono fun b _ h => by have := Xk1.out.size; omega)
  have zw3 := kw3.size
  unfold planV at *
  obtain ⟨pr, hpr⟩ : ∃ p, P.rule.head.pred = p := ⟨_, rfl⟩
  rw [hpr]
  clear ir2
  have Xk3 := Lib.hid k3
  have Xpo := Lib.hid po
  have Xpi := Lib.hid pi
  have Xkw3 := Lib.hid kw3
  have Xhpr := Lib.hid hpr
  clear k3 po pi kw3 hpr
  go_upto_region 2 with fail
  refine wp_abs (fun W => Keep (fun b => b < W3.heap.size) W3 W ∧ W.heap.size = W3.heap.size + 1 ∧ W.heap[W3.heap.size]? = some (.cells #[.string pr, .slice avh P.rule.head.args.length cvh, .slice avb P.rule.body.length cvb, .slice avs P.steps.length cvs] 34 (0, 0)))
    ⟨Keep.alloc _ _ _, by simp, by simp only [alloc_get, World.size_alloc]; simp⟩ ?_
  rintro W4 ⟨k4, z4, a4⟩
  have kw4 : Keep (fun b => b < w.heap.size) w W4 := Xkw3.out.trans (k4.mono fun b _ h => by omega)
  have pi4 := (Xpi.out.keep k4).wider (show W3.heap.size ≤ W4.heap.size by omega)
  have c0 := cells_of_block a4 0 _ rfl
  have c1 := cells_of_block a4 1 _ rfl
  have c2 := cells_of_block a4 2 _ rfl
  have c3 := cells_of_block a4 3 _ rfl
  simp only [Nat.zero_add] at c0 c1 c2 c3
  obtain ⟨N, hN⟩ : ∃ N, W3.heap.size = N := ⟨_, rfl⟩
  rw [hN] at k4 z4 a4 c0 c1 c2 c3 ⊢
  have hNl : N < W4.heap.size := by omega
  have hz4 := Xhsz.out W4.drew
  simp only [World.size_drew] at hz4
  have hrw := fun w1 v hp h => rows_any w1.heap.size P (.slice avh P.rule.head.args.length cvh) (.slice avb P.rule.body.length cvb) (.slice avs P.steps.length cvs) Z v w1 hp h (Nat.le_refl _)
  rw [XhE.out] at hrw
  rw [XhD.out] at hrw
  unfold planV at hrw
  simp only [Xhpr.out] at hrw
  clear k4 a4
  have Xkw4 := Lib.hid kw4
  have Xpi4 := Lib.hid pi4
  have Xhz4 := Lib.hid hz4
  have Xhrw := Lib.hid hrw
  have XhN := Lib.hid hN
  clear kw4 pi4 hz4 hrw hN
  go_region_held3 (fun W => W.cell? ⟨N, 0, none⟩ = some (.string pr) ∧ W.cell? ⟨N, 1, none⟩ = some (.slice avh P.rule.head.args.length cvh) ∧ W.cell? ⟨N, 2, none⟩ = some (.slice avb P.rule.body.length cvb) ∧ W.cell? ⟨N, 3, none⟩ = some (.slice avs P.steps.length cvs))
    (first | (refine ⟨?_, ?_, ?_, ?_⟩ <;> assumption) | go_keep)
    (first
      | (go_at_call 33; refine Xhz4.out.mono ?_; rintro e w1 ⟨sv2, rfl, is5, k5⟩; have d0 := k5.cell c0 (by simp; omega); have d1 := k5.cell c1 (by simp; omega); have d2 := k5.cell c2 (by simp; omega); have d3 := k5.cell c3 (by simp; omega); have z5 := k5.size; simp only [World.size_drew] at z5; clear c0 c1 c2 c3)
      | (go_at_call 18; refine (Xhrw.out w1 sv2 ((Xpi4.out.keep ((Keep.drew _ _).trans k5)).wider z5) is5).mono ?_; rintro e w2 ⟨rv, rfl, ro, k6⟩; have d0' := k6.cell d0 (by simp; omega); have d1' := k6.cell d1 (by simp; omega); have d2' := k6.cell d2 (by simp; omega); have d3' := k6.cell d3 (by simp; omega); clear d0 d1 d2 d3))
  have pi6 := (((Xpi4.out.keep ((Keep.drew _ _).trans k5)).wider z5).keep k6).wider k6.size
  have kw6 : Keep (fun b => b < w.heap.size) w w2 := (Xkw4.out.trans ((Keep.drew _ _).trans (k5.mono fun b _ h => by have := Xkw4.out.size; omega))).trans (k6.mono fun b _ h => by have := XhN.out; omega)
  have z6 := k6.size
  obtain ⟨g, cap, rfl⟩ : ∃ g cap, rv = .slice (some ⟨g, 0, none⟩) 3 cap := by
    rcases ro.2 with ⟨_, h⟩ | ⟨g, cap, cur, h, _⟩
    · cases h
    · exact ⟨g, cap, h⟩
  have r0 := own_elem ro 0 _ rfl
  have rc := own_cap ro
  have hp7 := pos_head w2
  clear ro k5 k6 is5
  have Xpi6 := Lib.hid pi6
  have Xkw6 := Lib.hid kw6
  have Xhp7 := Lib.hid hp7
  have Xrc := Lib.hid rc
  clear pi6 kw6 hp7 rc
  go_wp2_with fail
  refine Xhp7.out.mono ?_
  rintro e W7 ⟨a7, c7, rfl, i7, k7⟩
  have hfd : ∀ w, (Instr.field 78 (.agg #[.int .i64 1, .string ⟨#[104]⟩, .slice a7 1 c7, .bool false, .string ⟨#[]⟩, .bool false, .string ⟨#[]⟩]) 1).run Try.prog w = .ok (.agg #[.string ⟨#[104]⟩, .slice a7 1 c7]) w := fun _ => by kernel_rfl
  have hm7 := make_none W7 a7 c7 i7
  have z7 := k7.size
  have Xhm7 := Lib.hid hm7
  have Xk7 := Lib.hid k7
  have Xi7 := Lib.hid i7
  clear hm7 k7 i7
  go_wp2_with fail
  refine Xhm7.out.mono ?_
  rintro e W8 ⟨ah, ch, ab, cb, aq, cs, rfl, k8⟩
  have k28 : Keep (fun b => b < w2.heap.size) w2 W8 := (Xk7.out.mono fun _ _ _ => trivial).trans (k8.mono fun b _ h => by omega)
  have z8 := k28.size
  have pi8 := (Xpi6.out.keep k28).wider z8
  have d0 := k28.cell d0' (show N < w2.heap.size by omega)
  have d1 := k28.cell d1' (show N < w2.heap.size by omega)
  have d2 := k28.cell d2' (show N < w2.heap.size by omega)
  have d3 := k28.cell d3' (show N < w2.heap.size by omega)
  have r1 := k28.cell r0 (show g < w2.heap.size by have := Xrc.out; omega)
  have kw8 : Keep (fun b => b < w.heap.size) w W8 := Xkw6.out.trans (k28.mono fun b _ h => by have := Xkw4.out.size; omega)
  clear d0' d1' d2' d3' r0 k8 k28 hfd
  have Xpi8 := Lib.hid pi8
  have Xkw8 := Lib.hid kw8
  clear pi8 kw8
  go_upto_region 4 with fail
  refine wp_abs (fun W => Keep (fun _ => True) W8 W) (Keep.alloc _ _ _) ?_
  rintro W9 k9
  have z9 := k9.size
  have e0 := k9.cell d0 trivial
  have e1 := k9.cell d1 trivial
  have e2 := k9.cell d2 trivial
  have e3 := k9.cell d3 trivial
  have q0 := k9.cell r1 trivial
  have pi9 := (Xpi8.out.keep (k9.mono fun _ _ _ => trivial)).wider z9
  have kw9 : Keep (fun b => b < w.heap.size) w W9 := Xkw8.out.trans (k9.mono fun _ _ _ => trivial)
  have hN9 : N < W9.heap.size := by omega
  have hg9 : g < W9.heap.size := by have := Xrc.out; omega
  have hor := refOrder_any _ P _ _ _ W9 pi9 (Nat.le_refl _)
  rw [XhL.out] at hor
  have hrt := fun W (hk : Keep (fun b => b < W9.heap.size) W9 W) => right_any _ P _ _ _ W ((pi9.keep hk).wider hk.size) (Nat.le_refl _)
  rw [XhR.out] at hrt
  unfold planV at hor hrt
  simp only [Xhpr.out] at hor hrt
  have hnum := fun i => lawNum_any i W9
  have hfe : ∀ w, (binOp .eql 49 (.float .f64 4620693217682128896) (.float .f64 4620693217682128896)).run Try.prog w = .ok (.bool true) w := fun _ => by kernel_rfl
  have hls : P.steps.length = 3 := by have := congrArg List.length XhL.out; rw [List.length_map] at this; exact this
  clear d0 d1 d2 d3 r1 k9
  have Xpi9 := Lib.hid pi9
  have Xkw9 := Lib.hid kw9
  have Xhor := Lib.hid hor
  have Xhrt := Lib.hid hrt
  have Xhnum := Lib.hid hnum
  have Xhls := Lib.hid hls
  clear pi9 kw9 hor hrt hnum hls
  go_wp2_with fail
  refine (Xhnum.out 0).mono ?_
  rintro e w9 ⟨rfl, hw9⟩; have hw9 := hw9.symm; subst hw9
  go_wp2_with fail
  refine (Xhnum.out 0).mono ?_
  rintro e w9 ⟨rfl, hw9⟩; have hw9 := hw9.symm; subst hw9
  go_wp2_with fail
  refine (Xhnum.out 14).mono ?_
  rintro e w9 ⟨rfl, hw9⟩; have hw9 := hw9.symm; subst hw9
  go_wp2_with fail
  refine Xhor.out.mono ?_
  rintro e W10 ⟨ov, rfl, oo, k10⟩
  rw [Xhls.out] at oo
  have oi := own_ints (ss := [1, 2, 0]) oo (by decide)
  have z10 := k10.size
  obtain ⟨ao, co, rfl⟩ := own_form oo
  have h11 := World.ownsRow_lit (base := 0) (size := 1) (e := 3) W10 #[.int .i64 1, .int .i64 2, .int .i64 0] 3 (by omega) (by decide) rfl
  have i11 : IntsIn _ _ _ [1, 2, 0] := own_ints h11 (by simp)
  have k11 : Keep (fun _ => True) W10 (W10.alloc (.cells #[.int .i64 1, .int .i64 2, .int .i64 0] 3)) := Keep.alloc _ _ _
  have hsi := refSameInts_any _ _ _ [1, 2, 0] [1, 2, 0] _ (SliceIn.wider (ints_kept oi (k11.mono fun _ _ _ => trivial)) k11.size fun _ _ _ _ h => h) i11 (Nat.le_refl _)
  clear oo h11 i11
  have Xoi := Lib.hid oi
  have Xk10 := Lib.hid k10
  have Xk11 := Lib.hid k11
  have Xhsi := Lib.hid hsi
  clear oi k10 k11 hsi
  go_wp2_with fail
  refine Xhsi.out.mono ?_
  rintro e W12 ⟨rfl, k12⟩
  have k912 : Keep (fun b => b < W9.heap.size) W9 W12 := (Xk10.out.trans (Xk11.out.mono fun _ _ _ => trivial)).trans (k12.mono fun _ _ _ => trivial)
  have f0 := k912.cell e0 hN9
  have f1 := k912.cell e1 hN9
  have f2 := k912.cell e2 hN9
  have f3 := k912.cell e3 hN9
  have q1 := k912.cell q0 hg9
  have z12 := k912.size
  have hN12 : N < W12.heap.size := by omega
  have hg12 : g < W12.heap.size := by omega
  have hr12 := Xhrt.out W12 k912
  rw [show decide True = true from rfl]
  clear e0 e1 e2 e3 q0 k12
  have Xk912 := Lib.hid k912
  have Xhr12 := Lib.hid hr12
  clear k912 hr12
  go_wp2_with fail
  refine Xhr12.out.mono ?_
  rintro e W13 ⟨rfl, k13⟩
  have hpost : Keep (fun b => b < w.heap.size) w W13 := (Xkw9.out.trans (Xk912.out.mono fun b _ h => by have := Xkw9.out.size; omega)).trans (k13.mono fun b _ h => by have := Xkw9.out.size; omega)
  clear k13 f0 f1 f2 f3 q1
  have Xhpost := Lib.hid hpost
  clear hpost
  go_wp2_with fail
  refine bodyPost_ret (v := .bool true) (by simp [results, Try.results9, go_sem]) rfl ?_
  exact ⟨rfl, Xhpost.out⟩
end Go.Proofs

/- The end of a law whose arguments stay. -/
namespace Go.Proofs
open Go.RowKit Go.ChangeShapes Go.WideShapes
set_option linter.unusedVariables false
set_option linter.unusedSimpArgs false

/-- Arguments in old memory read as they did. -/
theorem all_stay {H : Type} {enc : TypeId × Value → H} {P : Program} (hl : laidOutB P = true) {W W' : World} (hb : Below W.heap.size W W') {sp : Nat → Bool} :
    ∀ {ts : List TypeId} {vs : List Value} {ds : List (DataW H)} {p : List MemPlace}, (∀ t, t ∈ ts → P.readableRec t = true ∧ t < P.types.size) →
      DataW.TrodAll enc P W 0 (fun _ => true) true ts vs ds p → (∀ x, x ∈ p → x.block < W.heap.size) → (∀ x, x ∈ p → sp x.block = true) → DataW.TrodAll enc P W' 0 sp true ts vs ds p
  | [], _, _, _, _, h, _, _ => by
    obtain ⟨rfl, rfl, rfl⟩ := trodAll_nil h
    exact trodAll_mk0
  | t :: ts, _, _, _, hr, h, h1, h2 => by
    obtain ⟨v, vs1, d, ds1, a, b, rfl, rfl, rfl, k1, k2⟩ := trodAll_cons h
    exact trodAll_cons_mk (WideElems.Trod_stays hl (hr t List.mem_cons_self).1 (hr t List.mem_cons_self).2 k1 (fun x hx => hb.same (h1 x (List.mem_append_left _ hx))) (fun x hx => h2 x (List.mem_append_left _ hx)))
      (all_stay hl hb (fun u hu => hr u (List.mem_cons_of_mem _ hu)) k2 (fun x hx => h1 x (List.mem_append_right _ hx)) (fun x hx => h2 x (List.mem_append_right _ hx)))

/-- The end of a law whose arguments stay: what it answers, and that old memory is as it was. -/
theorem post_below {H : Type} {enc : TypeId × Value → H} {P : Program} {f : Func} {s : ChangeSpec} {apart fresh handsOn : Bool} {W W' : World} {args : Array Value} {v : Value} {ds gs : List (DataW H)} {before : List MemPlace}
    (hW : DataW.Whole enc P f.params.toList s.vars apart W args.toList ds gs before) (hv : s.vars = []) (hv2 : (s.fn H (ds ++ gs)).vars = [])
    (hres : ∀ b, DataW.TrodAll enc P W' b (fun _ => false) handsOn f.resultTypes.toList (v.resultList f.resultTypes.size) (s.fn H (ds ++ gs)).results [])
    (hargs : (s.fn H (ds ++ gs)).args = ds) (hl : laidOutB P = true) (hr : ∀ t, t ∈ f.params.toList → P.readableRec t = true ∧ t < P.types.size) (hb : Below W.heap.size W W') :
    s.post enc P f apart fresh handsOn false W args v W' := by
  have hlt := hW.lt
  have hW' := hW
  obtain ⟨p, q, hA, hV, rfl, _, _⟩ := hW
  rw [hv] at hV
  obtain ⟨rfl, rfl⟩ := trodVars_none hV
  refine ⟨ds, [], _, [], p, [], hW', hres _, ?_, ?_, hb.frame _, fun h => by cases h⟩
  · rw [hargs]
    exact all_stay hl hb hr hA (fun x hx => hlt x (by simpa using hx)) (fun x hx => by simpa using hlt x (by simpa using hx))
  · rw [hv, hv2]; rfl
end Go.Proofs

/- Layer 16 (plan): sizes of relations: what is in memory, and what they are in plain Lean. -/
namespace Go.Proofs
open Go Go.RowKit Go.Ink
set_option linter.unusedVariables false
set_option linter.unusedSimpArgs false
attribute [local go_sem] Oper.semAt_some

structure RelaD where
  pred : ByteArray
  arity : Int
  tuples : List (List ByteArray)
  deriving DecidableEq, Inhabited
def TupE (n : Nat) (w : World) (b o : Nat) (t : List ByteArray) : Prop := ∃ sv, w.cell? ⟨b, o, none⟩ = some sv ∧ StrsIn n w sv t
abbrev TupsIn (n : Nat) (w : World) (v : Value) (ts : List (List ByteArray)) : Prop := SliceIn n w 1 (TupE n) v ts
theorem TupsIn.keep {n : Nat} {w w' : World} {v : Value} {ts : List (List ByteArray)} (h : TupsIn n w v ts) (hK : Keep (fun k => k < n) w w') : TupsIn n w' v ts :=
  h.mono fun b o t hb ⟨sv, h1, h2⟩ => ⟨sv, hK.cell h1 hb, strs_keep h2 hK⟩
theorem TupsIn.wider {n n' : Nat} {w : World} {v : Value} {ts : List (List ByteArray)} (h : TupsIn n w v ts) (hn : n ≤ n') : TupsIn n' w v ts :=
  SliceIn.wider h hn fun _ _ _ _ ⟨sv, h1, h2⟩ => ⟨sv, h1, strs_wider h2 hn⟩
def RelaE (n : Nat) (w : World) (b o : Nat) (r : RelaD) : Prop := ∃ tv, CellsE w b o [.string r.pred, .int .i64 r.arity, tv] ∧ TupsIn n w tv r.tuples
abbrev RelasIn (n : Nat) (w : World) (v : Value) (rs : List RelaD) : Prop := SliceIn n w 3 (RelaE n) v rs
theorem RelasIn.keep {n : Nat} {w w' : World} {v : Value} {rs : List RelaD} (h : RelasIn n w v rs) (hK : Keep (fun k => k < n) w w') : RelasIn n w' v rs :=
  h.mono fun b o r hb ⟨tv, h1, h2⟩ => ⟨tv, fun j v hj => hK.cell (h1 j v hj) hb, TupsIn.keep h2 hK⟩
theorem RelasIn.wider {n n' : Nat} {w : World} {v : Value} {rs : List RelaD} (h : RelasIn n w v rs) (hn : n ≤ n') : RelasIn n' w v rs :=
  SliceIn.wider h hn fun _ _ _ _ ⟨tv, h1, h2⟩ => ⟨tv, h1, TupsIn.wider h2 hn⟩

/-- a column's strings, from above -/
def colL (ts : List (List ByteArray)) (c : Nat) : List ByteArray := ts.filterMap fun t => t[c]?
theorem colL_snoc {ts : List (List ByteArray)} {k : Nat} {t : List ByteArray} (h : ts[k]? = some t) (c : Nat) : colL (ts.take (k + 1)) c = colL (ts.take k) c ++ (t[c]?).toList := by
  unfold colL
  rw [List.take_add_one, h, List.filterMap_append]
  simp only [Option.toList_some, List.filterMap_cons, List.filterMap_nil]
  cases t[c]? <;> rfl
theorem colL_len (ts : List (List ByteArray)) (c : Nat) : (colL ts c).length ≤ ts.length := List.length_filterMap_le _ _
def countC (ts : List (List ByteArray)) (c : Nat) : Nat := (onceL (colL ts c)).length
theorem countC_le (ts : List (List ByteArray)) (c : Nat) : countC ts c ≤ ts.length := Nat.le_trans (onceL_len _) (colL_len _ _)
def wideD (ts : List (List ByteArray)) : Nat := (ts.getD 0 []).length
def distL (ts : List (List ByteArray)) (c : Nat) : List Int := (List.range c).map fun i => (countC ts i : Int)
theorem distL_succ (ts : List (List ByteArray)) (c : Nat) : distL ts (c + 1) = distL ts c ++ [(countC ts c : Int)] := by
  unfold distL; rw [List.range_succ, List.map_append]; rfl
theorem distL_len (ts : List (List ByteArray)) (c : Nat) : (distL ts c).length = c := by unfold distL; rw [List.length_map, List.length_range]
def sizeD (r : RelaD) : SizeD := ⟨r.pred, r.tuples.length, distL r.tuples (wideD r.tuples)⟩
theorem sizeD_nil {r : RelaD} (h : r.tuples.length = 0) : sizeD r = ⟨r.pred, r.tuples.length, []⟩ := by
  unfold sizeD wideD
  rw [List.eq_nil_of_length_eq_zero h]; rfl

/-- sizes of one's own -/
def sizeC (q : SizeD × Value) : List Value := [.string q.1.pred, .int .i64 q.1.rows, q.2]
theorem sizeC_len (qs : List (SizeD × Value)) : (qs.flatMap sizeC).length = qs.length * 3 := flatMap_len _ 3 (fun _ => rfl) qs
def SizesOwn (base : Nat) (w : World) (v : Value) (ss : List SizeD) : Prop :=
  ∃ qs : List (SizeD × Value), qs.map (·.1) = ss ∧ w.ownsRow base 63 3 v ss.length (qs.flatMap sizeC) ∧ ∀ q, q ∈ qs → w.ownsRow base 3 1 q.2 q.1.dist.length (q.1.dist.map (.int .i64))
theorem SizesOwn.sizes {base : Nat} {w : World} {v : Value} {ss : List SizeD} (h : SizesOwn base w v ss) (hl : ss.length ≤ 1073741824) (hd : ∀ s, s ∈ ss → s.dist.length ≤ 1073741824) : SizesIn w.heap.size w v ss := by
  obtain ⟨qs, rfl, h2, h3⟩ := h
  rw [List.length_map] at hl h2
  exact own_sizes (n0 := w.heap.size) h2 hl (Nat.le_refl _) (fun q hq => own_ints (h3 q hq) (hd _ (List.mem_map.2 ⟨q, hq, rfl⟩)))
theorem SizesOwn.keep {base : Nat} {w w' : World} {v : Value} {ss : List SizeD} {C : Nat → Prop} (h : SizesOwn base w v ss) (hK : Keep C w w') (hC : ∀ b, base ≤ b → b < w.heap.size → C b) : SizesOwn base w' v ss := by
  obtain ⟨qs, h1, h2, h3⟩ := h
  exact ⟨qs, h1, own_kept h2 hK (fun b hb => by have := World.ownsRow.lt h2 b hb; exact hC b this.1 this.2), fun q hq => own_kept (h3 q hq) hK (fun b hb => by have := World.ownsRow.lt (h3 q hq) b hb; exact hC b this.1 this.2)⟩
theorem SizesOwn.mono {base base' : Nat} {w : World} {v : Value} {ss : List SizeD} (h : SizesOwn base w v ss) (hb : base' ≤ base) : SizesOwn base' w v ss := by
  obtain ⟨qs, h1, h2, h3⟩ := h
  exact ⟨qs, h1, h2.mono hb, fun q hq => (h3 q hq).mono hb⟩

/-- empty sizes -/
def zeros : Nat → List Value
  | 0 => []
  | n + 1 => [.string ⟨#[]⟩, .int .i64 0, .slice none 0 0] ++ zeros n
theorem zeros_len (n : Nat) : (zeros n).length = n * 3 := by
  induction n with
  | zero => rfl
  | succ n ih => rw [zeros, List.length_append, ih]; simp; omega
theorem zeros_made (n : Nat) : madeCells #[.string ⟨#[]⟩, .int .i64 0, .slice none 0 0] (n * 3) = (zeros n).toArray := by
  apply Array.ext
  · simp [madeCells, zeros_len]
  · intro i h1 h2
    have hz : ∀ (n i : Nat) (h : i < (zeros n).length), (zeros n)[i] = ([.string ⟨#[]⟩, .int .i64 0, .slice none 0 0] : List Value)[i % 3]'(Nat.mod_lt _ (by decide)) := by
      intro n
      induction n with
      | zero => intro i h; simp [zeros] at h
      | succ n ih =>
        intro i h
        simp only [zeros]
        by_cases hi : i < 3
        · rw [List.getElem_append_left (by simpa using hi)]
          simp only [Nat.mod_eq_of_lt hi]
        · rw [List.getElem_append_right (by simpa using hi)]
          simp only [List.length_cons, List.length_nil]
          rw [ih]
          congr 1
          omega
    simp only [List.getElem_toArray]
    rw [hz]
    have hm : i % 3 < 3 := Nat.mod_lt _ (by decide)
    have he : ∀ (l : List Value) (k : Nat) (h : k < l.length), l[k]?.getD default = l[k] := fun l k h => by rw [List.getElem?_eq_getElem h]; rfl
    simp [madeCells]
    exact he _ _ hm
theorem info_size : (Try.prog.info? 63).map (fun i => (i.zero, i.size, i.bytes)) = some (some (.agg #[.string ⟨#[]⟩, .int .i64 0, .slice none 0 0]), 3, 48) := by kernel_rfl
theorem run_makeSizes (n : Nat) (h : n ≤ 1073741824) (u : World) : (Instr.makeSlice 29 (.int .i64 (n : Int)) (.int .i64 (n : Int))).run Try.prog u =
    .ok (.slice (some ⟨u.heap.size, 0, none⟩) n n) (u.alloc (.cells (zeros n).toArray 63)) := by
  obtain ⟨i0, hi, hz0, hz1, hz2⟩ := info_parts info_size
  have h := run_make (P := Try.prog) u 29 63 i0 (.agg #[.string ⟨#[]⟩, .int .i64 0, .slice none 0 0]) Try.underlying29 hi hz0 .i64 .i64 (n : Int) (n : Int) (by omega) (Int.le_refl _) (by rw [hz2]; omega) (by omega)
  rw [← zeros_made]
  simpa [hz1, Value.cells] using h
theorem run_makeSeen (w : World) : (Instr.makeMap 85 none).run Try.prog w = .ok (.map (some w.heap.size)) (w.alloc (.map #[] 0)) := by
  simp [Instr.makeMap, Sem.run_bind, run_underlying Try.underlying85, Result.andThen, run_newObj_alloc]
/-- three cells of empty sizes written over -/
theorem zeros_set (A : List Value) (m : Nat) (x y z : Value) : (((A ++ zeros (m + 1)).set A.length x).set (A.length + 1) y).set (A.length + 2) z = A ++ [x, y, z] ++ zeros m := by
  show (((A ++ (([.string ⟨#[]⟩, .int .i64 0, .slice none 0 0] : List Value) ++ zeros m)).set A.length x).set (A.length + 1) y).set (A.length + 2) z = _
  simp [List.set_append, List.append_assoc]
theorem mid_set (A C : List Value) (x y z z' : Value) : (A ++ [x, y, z] ++ C).set (A.length + 2) z' = A ++ [x, y, z'] ++ C := by
  simp [List.set_append, List.append_assoc]
theorem mid_at (A C : List Value) (x y z : Value) : (A ++ [x, y, z] ++ C)[A.length + 2]? = some z := by
  rw [List.append_assoc, List.getElem?_append_right (by omega)]
  simp
theorem zeros_at (A : List Value) (m j : Nat) (hj : j < 3) : (A ++ zeros (m + 1))[A.length + j]? = ([.string ⟨#[]⟩, .int .i64 0, .slice none 0 0] : List Value)[j]? := by
  rw [List.getElem?_append_right (by omega), show A.length + j - A.length = j by omega]
  show (([.string ⟨#[]⟩, .int .i64 0, .slice none 0 0] : List Value) ++ zeros m)[j]? = _
  rw [List.getElem?_append_left (by simpa using hj)]
end Go.Proofs
