/- Layer 16 (plan): the law's own sizes and rule; the order of a plan. -/
import Derived.Test.YtichfebfcapnhaaProg
import Derived.Test.YtichfebfcapnhaaPoB
import Derived.Test.YtichfebfcapnhaaPnZToPoA
import Derived.Laws.OwnMore
namespace Go.Proofs
open Go.RowKit Go.Ink Go.Flt
set_option linter.unusedVariables false
set_option linter.unusedSimpArgs false
attribute [local go_sem] Oper.semAt_some

theorem own_sizes {n0 : Nat} {w : World} {base : Nat} {e : TypeId} {v : Value} {n : Nat} {ps : List (SizeD × Value)} (h : w.ownsRow base e 3 v n (ps.flatMap fun p => [.string p.1.pred, .int .i64 p.1.rows, p.2])) (hb : ps.length ≤ 1073741824) (hn : n0 ≤ w.heap.size)
    (hps : ∀ p, p ∈ ps → IntsIn n0 w p.2 p.1.dist) : SizesIn w.heap.size w v (ps.map (·.1)) :=
  own_slice h (ps.map (·.1)) (by have := h.1; rw [flatMap_len _ 3 (fun _ => rfl)] at this; simp; omega) (by simpa using hb) (SizeE w.heap.size) fun b k d hd hc => by
    rw [List.getElem?_map] at hd
    obtain ⟨p, hp, rfl⟩ := Option.map_eq_some_iff.1 hd
    refine ⟨p.2, fun j u hu => ?_, SliceIn.wider (hps p (List.mem_of_getElem? hp)) hn fun _ _ _ _ h => h⟩
    have hj : j < 3 := (List.getElem?_eq_some_iff.1 hu).1
    rw [hc j hj, flatMap_at _ 3 (fun _ => rfl) _ k j p hp hj]; exact hu

def sizesL : List SizeD := [⟨⟨#[101]⟩, 100, [10, 50]⟩, ⟨⟨#[112]⟩, 8, [8]⟩]
set_option maxRecDepth 100000 in
theorem lawSizes_any (w : World) : Calls Try.prog 33 #[] w fun e w' => ∃ v, e = .returned v ∧ SizesIn w'.heap.size w' v sizesL ∧ Keep (fun b => b < w.heap.size) w w' := by
  go_enter Try.func33, Try.ntmps33
  go_wp2_with fail
  refine bodyPost_ret (v := .slice (some ⟨w.heap.size + 1 + 1, 0, none⟩) 2 2) (by simp [results, Try.results33, go_sem]) rfl ?_
  have h1 := World.ownsRow_lit (base := 0) (size := 1) (e := 3) w #[.int .i64 10, .int .i64 50] 2 (by omega) (by decide) rfl
  have i1 : IntsIn _ _ _ [10, 50] := own_ints h1 (by simp)
  obtain ⟨w1, hw1⟩ : ∃ x, w.alloc (.cells #[.int .i64 10, .int .i64 50] 3) = x := ⟨_, rfl⟩
  have z1 : w1.heap.size = w.heap.size + 1 := by rw [← hw1]; simp
  have k1 : Keep (fun _ => True) w w1 := by rw [← hw1]; exact Keep.alloc _ _ _
  rw [hw1] at i1 ⊢
  have h2 := World.ownsRow_lit (base := 0) (size := 1) (e := 3) w1 #[.int .i64 8] 1 (by omega) (by decide) rfl
  have i2 : IntsIn _ _ _ [8] := own_ints h2 (by simp)
  obtain ⟨w2, hw2⟩ : ∃ x, w1.alloc (.cells #[.int .i64 8] 3) = x := ⟨_, rfl⟩
  have z2 : w2.heap.size = w1.heap.size + 1 := by rw [← hw2]; simp
  have k2 : Keep (fun _ => True) w1 w2 := by rw [← hw2]; exact Keep.alloc _ _ _
  rw [hw2] at i2 ⊢
  have j1 : IntsIn w2.heap.size w2 _ [10, 50] := SliceIn.wider (ints_kept i1 (k2.mono fun _ _ _ => trivial)) (by omega) fun _ _ _ _ h => h
  have h3 := World.ownsRow_lit (base := 0) (size := 3) (e := 63) w2 #[.string ⟨#[101]⟩, .int .i64 100, .slice (some ⟨w.heap.size, 0, none⟩) 2 2, .string ⟨#[112]⟩, .int .i64 8, .slice (some ⟨w1.heap.size, 0, none⟩) 1 1] 2 (by omega) (by decide) rfl
  have k3 : Keep (fun _ => True) w2 (w2.alloc (.cells #[.string ⟨#[101]⟩, .int .i64 100, .slice (some ⟨w.heap.size, 0, none⟩) 2 2, .string ⟨#[112]⟩, .int .i64 8, .slice (some ⟨w1.heap.size, 0, none⟩) 1 1] 63)) := Keep.alloc _ _ _
  have i3 := own_sizes (n0 := w2.heap.size) (ps := [(⟨⟨#[101]⟩, 100, [10, 50]⟩, .slice (some ⟨w.heap.size, 0, none⟩) 2 2), (⟨⟨#[112]⟩, 8, [8]⟩, .slice (some ⟨w1.heap.size, 0, none⟩) 1 1)]) h3 (by simp) (by simp) (by
    intro p hp
    simp only [List.mem_cons, List.not_mem_nil, or_false] at hp
    rcases hp with rfl | rfl
    · exact ints_kept j1 (k3.mono fun _ _ _ => trivial)
    · exact ints_kept i2 (k3.mono fun _ _ _ => trivial))
  rw [z1] at i3 k3 
  rw [z2, z1] at i3
  exact ⟨_, rfl, i3, ((k1.trans k2).trans k3).mono fun _ _ _ => trivial⟩

theorem lawNum_any (i : Int) (w : World) : Calls Try.prog 14 #[.int .i64 i] w fun e w' => e = .returned (.int .i64 i) ∧ w' = w := by
  go_enter Try.func14, Try.ntmps14
  go_wp2_with fail
  refine bodyPost_ret (v := .int .i64 i) (by simp [results, Try.results14, go_sem]) rfl ?_
  exact ⟨rfl, rfl⟩

def ruleS : RuleD := ⟨(posOf ⟨#[104]⟩ [⟨#[88]⟩]).atom, [posOf ⟨#[101]⟩ [⟨#[88]⟩, ⟨#[89]⟩], posOf ⟨#[112]⟩ [⟨#[89]⟩], ⟨3, ⟨⟨#[]⟩, []⟩, termOf ⟨#[89]⟩, termOf ⟨#[99]⟩⟩]⟩
theorem strs_new (w : World) (ss : List ByteArray) (h : ss.length ≤ 1073741824) : StrsIn (w.alloc (.cells (ss.map Value.string).toArray 9)).heap.size (w.alloc (.cells (ss.map Value.string).toArray 9)) (.slice (some ⟨w.heap.size, 0, none⟩) ss.length ss.length) ss :=
  own_strs (World.ownsRow_lit (base := 0) (size := 1) (e := 9) w (ss.map Value.string).toArray ss.length (by omega) (Nat.le_trans h (by decide)) (by simp)) h
theorem pos_new (p : ByteArray) (ss : List ByteArray) (w : World) (h : ss.length ≤ 1073741824) (hpos : ∀ s, s ∈ ss → 0 < s.size) :
    Calls Try.prog 34 #[.string p, .slice (some ⟨w.heap.size, 0, none⟩) ss.length ss.length] (w.alloc (.cells (ss.map Value.string).toArray 9)) fun e w' => ∃ a c, e = .returned (litV (posOf p ss) (.slice a ss.length c)) ∧ w'.ownsRow w.heap.size 76 2 (.slice a ss.length c) ss.length (termCells (ss.map termOf)) ∧ Keep (fun _ => True) w w' := by
  refine (pos_any _ p _ ss _ (strs_new w ss h) hpos (Nat.le_refl _)).mono ?_
  rintro e w' ⟨va, rfl, ho, hk⟩
  obtain ⟨a, c, rfl⟩ := own_form ho
  refine ⟨a, c, rfl, ?_, (Keep.alloc _ _ _).trans (hk.mono fun b hb _ => hb)⟩
  exact ho.mono (by simp)
set_option maxRecDepth 100000 in
set_option maxHeartbeats 1000000 in
theorem lawSmall_any (w : World) : Calls Try.prog 32 #[] w fun e w' => ∃ vh vb, e = .returned (ruleV ruleS vh vb) ∧ RuleIn w'.heap.size w' vh vb ruleS ∧ Keep (fun b => b < w.heap.size) w w' := by
  obtain ⟨N, hN⟩ : ∃ N, w.heap.size = N := ⟨_, rfl⟩
  obtain ⟨R, hR⟩ : ∃ R, ruleS = R := ⟨_, rfl⟩
  rw [hR]
  have p1 := fun W => pos_new ⟨#[104]⟩ [⟨#[88]⟩] W (by decide) (by decide)
  have p2 := fun W => pos_new ⟨#[101]⟩ [⟨#[88]⟩, ⟨#[89]⟩] W (by decide) (by decide)
  have p3 := fun W => pos_new ⟨#[112]⟩ [⟨#[89]⟩] W (by decide) (by decide)
  have t1 := fun W => lawTerm_any ⟨#[89]⟩ (by decide) W
  have t2 := fun W => lawTerm_any ⟨#[99]⟩ (by decide) W
  rw [show termV (termOf ⟨#[89]⟩) = .agg #[.bool true, .string ⟨#[89]⟩] from rfl] at t1
  rw [show termV (termOf ⟨#[99]⟩) = .agg #[.bool false, .string ⟨#[99]⟩] from rfl] at t2
  unfold litV posOf at p1 p2 p3
  simp only [List.length_cons, List.length_nil, List.map_cons, List.map_nil, Nat.zero_add, Nat.reduceAdd] at p1 p2 p3
  obtain ⟨tX, htX⟩ : ∃ t, termOf ⟨#[88]⟩ = t := ⟨_, rfl⟩
  obtain ⟨tY, htY⟩ : ∃ t, termOf ⟨#[89]⟩ = t := ⟨_, rfl⟩
  rw [htX] at p1 p2
  rw [htY] at p2 p3
  have XhN := Lib.hid hN
  have Xp1 := Lib.hid p1
  have Xp2 := Lib.hid p2
  have Xp3 := Lib.hid p3
  have Xt1 := Lib.hid t1
  have Xt2 := Lib.hid t2
  have XhR := Lib.hid hR
  have XhtX := Lib.hid htX
  have XhtY := Lib.hid htY
  clear hN p1 p2 p3 t1 t2 hR htX htY
  go_enter Try.func32, Try.ntmps32
  go_upto_region 1 with fail
  refine wp_abs (fun W => Keep (fun b => b < w.heap.size) w W ∧ W.heap.size = w.heap.size + 1 ∧ W.heap[w.heap.size]? = some (.cells #[.string ⟨#[]⟩, .slice none 0 0, .slice none 0 0] 28 (0, 0))) ⟨Keep.alloc _ _ _, by simp, by simp only [alloc_get, World.size_alloc]; simp⟩ ?_
  rintro W0 ⟨k0, z0, a1⟩
  rw [XhN.out] at k0 z0 a1 ⊢
  have hNl : N < W0.heap.size := by omega
  have Xk0 := Lib.hid k0
  have Xa1 := Lib.hid a1
  clear k0 a1
  go_wp2_with fail
  have pp1 := Xp1.out W0
  rw [z0] at pp1
  refine pp1.mono ?_
  clear pp1
  rintro e W1 ⟨aa1, cc1, rfl, i1, k1⟩
  have hfd : ∀ w, (Instr.field 78 (.agg #[.int .i64 1, .string ⟨#[104]⟩, .slice aa1 1 cc1, .bool false, .string ⟨#[]⟩, .bool false, .string ⟨#[]⟩]) 1).run Try.prog w = .ok (.agg #[.string ⟨#[104]⟩, .slice aa1 1 cc1]) w := fun _ => by kernel_rfl
  have Xi1 := Lib.hid i1
  have Xk1 := Lib.hid k1
  clear i1 k1
  go_wp2_with fail
  refine (Xp2.out W1).mono ?_
  rintro e W2 ⟨aa2, cc2, rfl, i2, k2⟩
  have Xi2 := Lib.hid i2
  have Xk2 := Lib.hid k2
  clear i2 k2
  go_wp2_with fail
  refine (Xp3.out W2).mono ?_
  rintro e W3 ⟨aa3, cc3, rfl, i3, k3⟩
  have Xi3 := Lib.hid i3
  have Xk3 := Lib.hid k3
  clear i3 k3
  go_wp2_with fail
  refine (Xt1.out W3).mono ?_
  rintro e W4 ⟨rfl, k4⟩
  have Xk4 := Lib.hid k4
  clear k4
  go_wp2_with fail
  refine (Xt2.out W4).mono ?_
  rintro e W5 ⟨rfl, k5⟩
  have Xk5 := Lib.hid k5
  clear k5
  have k1 := Xk1.out
  have k2 := Xk2.out
  have k3 := Xk3.out
  have k4 := Xk4.out
  have i1 := Xi1.out
  have i2 := Xi2.out
  have i3 := Xi3.out
  have z1 := k1.size
  have z2 := k2.size
  have z3 := k3.size
  have z4 := k4.size
  have z5 := Xk5.out.size
  have k05 : Keep (fun _ => True) W0 W5 := (((k1.trans k2).trans k3).trans k4).trans Xk5.out
  have a5 := k05.heap Xa1.out trivial
  have j1 := own_kept i1 (((k2.trans k3).trans k4).trans Xk5.out) (fun _ _ => trivial)
  have j2 := own_kept i2 ((k3.trans k4).trans Xk5.out) (fun _ _ => trivial)
  have j3 := own_kept i3 (k4.trans Xk5.out) (fun _ _ => trivial)
  clear i1 i2 i3 k1 k2 k3 k4
  have Xj1 := Lib.hid j1
  have Xj2 := Lib.hid j2
  have Xj3 := Lib.hid j3
  have Xk05 := Lib.hid k05
  clear j1 j2 j3 k05
  have q0 := cells_of_block a5 0 _ rfl
  have q1 := cells_of_block a5 1 _ rfl
  have q2 := cells_of_block a5 2 _ rfl
  have e0 := box_free a5 0
  have e1 := box_free a5 1
  have e2 := box_free a5 2
  simp only [Nat.zero_add] at q0 q1 q2
  clear a5
  have hN5 : N < W5.heap.size := by omega
  go_wp2_with fail
  refine bodyPost_ret (v := .agg #[.string ⟨#[104]⟩, .slice aa1 1 cc1, .slice (some ⟨W5.heap.size, 0, none⟩) 3 3]) (by simp [results, Try.results32, go_sem, q0, q1, q2, hN5]) rfl ?_
  obtain ⟨W6, hW6⟩ : ∃ W, ((W5.setCell ⟨N, 0, none⟩ (.string ⟨#[104]⟩)).setCell ⟨N, 1, none⟩ (.slice aa1 1 cc1)).setCell ⟨N, 2, none⟩ (.slice (some ⟨W5.heap.size, 0, none⟩) 3 3) = W := ⟨_, rfl⟩
  have k6 : Keep (fun b => b ≠ N) W5 W6 := by rw [← hW6]; exact ((Keep.setCell _ _ _ (by simp)).trans (Keep.setCell _ _ _ (by simp))).trans (Keep.setCell _ _ _ (by simp))
  have z6 : W6.heap.size = W5.heap.size := by rw [← hW6]; simp [World.setCell]
  rw [hW6]
  have l6 := World.ownsRow_lit (base := 0) (size := 7) (e := 78) W6 #[.int .i64 1, .string ⟨#[101]⟩, .slice aa2 2 cc2, .bool false, .string ⟨#[]⟩, .bool false, .string ⟨#[]⟩, .int .i64 1, .string ⟨#[112]⟩, .slice aa3 1 cc3, .bool false, .string ⟨#[]⟩, .bool false, .string ⟨#[]⟩, .int .i64 3, .string ⟨#[]⟩, .slice none 0 0, .bool true, .string ⟨#[89]⟩, .bool false, .string ⟨#[99]⟩] 3 (by omega) (by decide) rfl
  have k7 : Keep (fun _ => True) W6 (W6.alloc (.cells #[.int .i64 1, .string ⟨#[101]⟩, .slice aa2 2 cc2, .bool false, .string ⟨#[]⟩, .bool false, .string ⟨#[]⟩, .int .i64 1, .string ⟨#[112]⟩, .slice aa3 1 cc3, .bool false, .string ⟨#[]⟩, .bool false, .string ⟨#[]⟩, .int .i64 3, .string ⟨#[]⟩, .slice none 0 0, .bool true, .string ⟨#[89]⟩, .bool false, .string ⟨#[99]⟩] 78)) := Keep.alloc _ _ _
  obtain ⟨W7, hW7⟩ : ∃ W, W6.alloc (.cells #[.int .i64 1, .string ⟨#[101]⟩, .slice aa2 2 cc2, .bool false, .string ⟨#[]⟩, .bool false, .string ⟨#[]⟩, .int .i64 1, .string ⟨#[112]⟩, .slice aa3 1 cc3, .bool false, .string ⟨#[]⟩, .bool false, .string ⟨#[]⟩, .int .i64 3, .string ⟨#[]⟩, .slice none 0 0, .bool true, .string ⟨#[89]⟩, .bool false, .string ⟨#[99]⟩] 78) = W := ⟨_, rfl⟩
  rw [hW7] at l6 k7 ⊢
  rw [z6] at l6
  have k57 : Keep (fun b => b ≠ N) W5 W7 := k6.trans (k7.mono fun _ _ _ => trivial)
  have j1 := Xj1.out
  have j2 := Xj2.out
  have j3 := Xj3.out
  rw [← XhtX.out] at j1 j2
  rw [← XhtY.out] at j2 j3
  have l1 := own_terms (ts := [⟨#[88]⟩].map termOf) (own_kept j1 k57 (fun b hb => by have := (World.ownsRow.lt j1 b hb).1; omega)) rfl (by decide)
  have l2 := own_terms (ts := [⟨#[88]⟩, ⟨#[89]⟩].map termOf) (own_kept j2 k57 (fun b hb => by have := (World.ownsRow.lt j2 b hb).1; omega)) rfl (by decide)
  have l3 := own_terms (ts := [⟨#[89]⟩].map termOf) (own_kept j3 k57 (fun b hb => by have := (World.ownsRow.lt j3 b hb).1; omega)) rfl (by decide)
  have l4 := own_lits (n0 := W7.heap.size) (ps := [(posOf ⟨#[101]⟩ [⟨#[88]⟩, ⟨#[89]⟩], .slice aa2 2 cc2), (posOf ⟨#[112]⟩ [⟨#[89]⟩], .slice aa3 1 cc3), (⟨3, ⟨⟨#[]⟩, []⟩, termOf ⟨#[89]⟩, termOf ⟨#[99]⟩⟩, .slice none 0 0)]) l6 (by simp) (Nat.le_refl _) (by
    intro p hp
    simp only [List.mem_cons, List.not_mem_nil, or_false] at hp
    rcases hp with rfl | rfl | rfl
    · exact l2
    · exact l3
    · exact ⟨none, 0, rfl, by decide, ⟨Nat.le_refl _, by decide⟩, fun k x h => by cases h⟩)
  refine ⟨.slice aa1 1 cc1, .slice (some ⟨W5.heap.size, 0, none⟩) 3 3, by rw [← XhR.out]; rfl, by rw [← XhR.out]; exact ⟨l1, l4⟩, ?_⟩
  have := Xk0.out
  rw [XhN.out]
  exact (this.trans (Xk05.out.mono fun _ _ _ => trivial)).trans (k57.mono fun b _ h => by omega)

set_option maxRecDepth 100000 in
set_option maxHeartbeats 1000000 in
theorem refOrder_any (n : Nat) (p : PlanD) (vh vb vs : Value) (w : World) (hp : PlanIn n w vh vb vs p) (hn : n ≤ w.heap.size) :
    Calls Try.prog 36 #[planV p vh vb vs] w fun e w' => ∃ v, e = .returned v ∧ w'.ownsRow w.heap.size 3 1 v p.steps.length ((p.steps.map StepD.lit).map (.int .i64)) ∧ Keep (fun b => b < w.heap.size) w w' := by
  obtain ⟨hr, hs⟩ := hp
  obtain ⟨⟨⟨pr, args⟩, body⟩, ss⟩ := p
  unfold planV
  simp only at hr hs ⊢
  obtain ⟨hh, hb⟩ := hr
  obtain ⟨aa, ca, rfl, -, -, -⟩ := id hh
  obtain ⟨ab, cb, rfl, -, -, -⟩ := id hb
  obtain ⟨a, c, rfl, hl, hcap, hel⟩ := id hs
  obtain ⟨N, hN⟩ : ∃ N, w.heap.size = N := ⟨_, rfl⟩
  clear hh hb
  have Xhel := Lib.hid hel
  have XhN := Lib.hid hN
  have Xhs := Lib.hid hs
  clear hel hN hs
  go_enter Try.func36, Try.ntmps36
  go_upto_region 1 with fail
  refine wp_abs (fun W => Keep (fun b => b < w.heap.size) w W ∧ W.heap.size = w.heap.size + 1 ∧ W.heap[w.heap.size]? = some (.cells #[.string pr, .slice aa args.length ca, .slice ab body.length cb, .slice a ss.length c] 34 (0, 0))) ⟨Keep.alloc _ _ _, by simp, by simp only [alloc_get, World.size_alloc]; simp⟩ ?_
  rintro W0 ⟨k0, z0, a1⟩
  rw [XhN.out] at k0 z0 a1 ⊢
  have Xk0 := Lib.hid k0
  have Xa1 := Lib.hid a1
  clear k0 a1
  go_wp2_with fail
  go_loopw [3, 4] (fun v i' wr => ∃ (k : Nat), k ≤ ss.length ∧ i' = .int .i64 (k : Int) ∧ Keep (fun b => b < N + 1) W0 wr ∧
    wr.ownsRow (N + 1) 3 1 v k (((ss.take k).map StepD.lit).map (.int .i64))) (fun _ i _ => ss.length - (intOf i).toNat)
  case atStart => exact ⟨0, by omega, rfl, Keep.refl _ _, World.ownsRow_nil _ _ _ _⟩
  case round =>
    obtain ⟨k, hk, rfl, hK, hob⟩ := hrel
    have hsz := hK.size
    have kw : Keep (fun b => b < N) w wr := Xk0.out.trans (hK.mono fun b _ h => by omega)
    have hX1 := hK.heap Xa1.out (show N < N + 1 by omega)
    have x3 := cells_of_block hX1 3 _ rfl
    simp only [Nat.zero_add] at x3
    have hNw : N < wr.heap.size := by omega
    by_cases hlt : k < ss.length
    · have hlt1 : (k : Int) < ss.length := by omega
      have hk0 : (0 : Int) ≤ k := by omega
      obtain ⟨x, hx⟩ : ∃ x, ss[k]? = some x := ⟨_, List.getElem?_eq_getElem hlt⟩
      obtain ⟨b4, o4, rfl, hb4, bv, nv, q0, -, -⟩ := Xhel.out k x hx
      have hb4N : b4 < N := by have := XhN.out; omega
      have f0 := kw.cell (q0 0 _ rfl) hb4N
      simp only [Nat.add_zero] at f0
      have hb4w : b4 < wr.heap.size := by omega
      obtain ⟨li, hli⟩ : ∃ i, x.lit = i := ⟨_, rfl⟩
      rw [hli] at f0
      have htk : ((ss.take (k + 1)).map StepD.lit).map (Value.int .i64) = ((ss.take k).map StepD.lit).map (Value.int .i64) ++ [Value.int .i64 li] := by rw [List.take_add_one, hx, ← hli]; simp
      obtain ⟨v', W3, hr3, ho3, hk3, g, cap, hv3, hg3, hl3'⟩ := app1 (P := Try.prog) el_ints 61 hob [.int .i64 li] rfl (by simp [Value.oneCell']) (by omega) (by omega)
      subst hv3
      rw [← htk] at ho3
      have hK3 : Keep (fun b => b < N + 1) W0 W3 := hK.trans (hk3.mono fun b hb h e => by have := (World.ownsRow.lt hob b e.symm).1; omega)
      clear q0 hx hli htk hX1
      have XhK := Lib.hid hK
      have Xhob := Lib.hid hob
      have Xkw := Lib.hid kw
      have Xho3 := Lib.hid ho3
      have Xhk3 := Lib.hid hk3
      have XhK3 := Lib.hid hK3
      have Xhr3 := Lib.hid hr3
      clear hK hob kw ho3 hk3 hK3 hr3
      go_wp2_with (at_builtin; refine go_app (v := u3) (u := .slice (some ⟨wr.heap.size, 0, none⟩) 1 1) (v' := .slice (some ⟨g, 0, none⟩) (k + 1) cap) (w' := W3) rfl (.tmp 12) (.tmp 19) 61 rfl rfl rfl Xhr3.out ?_)
      go_roundw
      case rel => exact ⟨k + 1, by omega, by go_num, XhK3.out, Xho3.out⟩
      case measure => simp [intOf]; omega
    · obtain rfl : k = ss.length := by omega
      rw [List.take_length] at hob
      have hlt0 : ¬ (ss.length : Int) < ss.length := by omega
      have XhK := Lib.hid hK
      have Xhob := Lib.hid hob
      have Xkw := Lib.hid kw
      have XhX1 := Lib.hid hX1
      clear hK hob kw hX1
      go_wp2_with fail
      refine bodyPost_ret (v := u3) (by simp [results, Try.results36, go_sem]) rfl ?_
      have hz := Xhob.out
      rw [List.map_map] at hz
      exact ⟨_, rfl, own_base2 hz (show w.heap.size ≤ N + 1 by have := XhN.out; omega), Xkw.out.mono fun b _ h => by have := XhN.out; omega⟩
end Go.Proofs

/- Layer 16 (plan): the plan that the document names, evaluated. -/
namespace Go.Proofs
open Go.RowKit Go.Ink Go.Flt
set_option linter.unusedVariables false
def planL : PlanD := ⟨ruleS, [⟨1, [], [⟨#[89]⟩]⟩, ⟨2, [], []⟩, ⟨0, [1], [⟨#[88]⟩]⟩]⟩
theorem planL_made : makeD ruleS sizesL (-1) = (planL, 0) := by kernel_rfl
theorem planL_none : makeD ⟨ruleS.head, []⟩ [] (-1) = (noPlan, 14) := by kernel_rfl
theorem planL_rows : rowsD planL sizesL = [4620693217682128896, 4619792497756654797, 4624296097384025293] := by kernel_rfl
theorem planL_err : rowsErr planL sizesL = 0 := by kernel_rfl
theorem planL_right : rightB planL = true := by kernel_rfl
theorem planL_lits : planL.steps.map StepD.lit = [1, 2, 0] := by kernel_rfl
theorem planL_own {base : Nat} {w : World} {vh vb vs : Value} (h : PlanOwn base w vh vb vs planL) : PlanIn w.heap.size w vh vb vs planL :=
  ⟨h.1.rule ⟨by decide, by decide, fun L hL => by
    change L ∈ [_, _, _] at hL
    simp only [List.mem_cons, List.not_mem_nil, or_false] at hL
    rcases hL with rfl | rfl | rfl <;> decide⟩, h.2.steps ⟨by decide, fun s hs => by
    change s ∈ [_, _, _] at hs
    simp only [List.mem_cons, List.not_mem_nil, or_false] at hs
    rcases hs with rfl | rfl | rfl <;> decide⟩⟩
end Go.Proofs
