/- Layer 16 (plan): the law PlanSizes. -/
import Derived.Test.YtichfebfcapnhaaProg
import Derived.Test.YtichfebfcapnhaaPpB
import Derived.Test.YtichfebfcapnhaaPpCToPpE
import Derived.Test.YtichfebfcapnhaaPoEToPpA
import Derived.Test.YtichfebfcapnhaaPnJ
import Derived.BigQuiet
namespace Go.Proofs
open Go.RowKit Go.Ink
set_option linter.unusedVariables false
set_option linter.unusedSimpArgs false
attribute [local go_sem] Oper.semAt_some

theorem HasInts.keep {w w' : World} {v : Value} {lo hi l : Nat} {C : Nat → Prop} (h : HasInts w v lo hi l) (hK : Keep C w w') (hC : ∀ b, b < hi → C b) : HasInts w' v lo hi l := by
  obtain ⟨a, c, hv, h⟩ := h
  refine ⟨a, c, hv, fun hl => ?_⟩
  obtain ⟨g, cs, ha, h1, h2, hg, hs⟩ := h hl
  exact ⟨g, cs, ha, h1, h2, hK.heap hg (hC _ h2), hs⟩
theorem Loose.keep {w w' : World} {v : Value} {lo hi : Nat} {dvs : List (Value × Nat)} {C : Nat → Prop} (h : Loose w v lo hi dvs) (hK : Keep C w w') (hC : ∀ b, b < hi → C b) : Loose w' v lo hi dvs := by
  obtain ⟨a, c', hv, h1, h2⟩ := h
  refine ⟨a, c', hv, fun hl => ?_, fun d hd => (h2 d hd).keep hK hC⟩
  obtain ⟨g', cs', ha, l1, l2, hg, hs, hc⟩ := h1 hl
  exact ⟨g', cs', ha, l1, l2, hK.heap hg (hC _ l2), hs, hc⟩
theorem wide_le {n : Nat} {w : World} {v : Value} {rs : List RelaD} (h : RelasIn n w v rs) : ∀ s, s ∈ rs.map sizeD → s.dist.length ≤ 1073741824 := by
  intro s hs
  obtain ⟨r, hr, rfl⟩ := List.mem_map.1 hs
  obtain ⟨k, hk⟩ := List.getElem?_of_mem hr
  obtain ⟨a, c, -, -, -, he⟩ := h
  obtain ⟨b, o, -, -, tv, -, ht⟩ := he k r hk
  show (distL r.tuples (wideD r.tuples)).length ≤ _
  rw [distL_len]
  obtain ⟨a2, c2, -, -, -, he2⟩ := ht
  cases h0 : r.tuples[0]? with
  | none =>
    have : wideD r.tuples = 0 := by unfold wideD; rw [List.getD_eq_getElem?_getD, h0]; rfl
    omega
  | some t =>
    obtain ⟨_, _, _, _, _, _, hss⟩ := he2 0 t h0
    obtain ⟨_, _, _, hl0, _⟩ := hss
    have : wideD r.tuples = t.length := by unfold wideD; rw [List.getD_eq_getElem?_getD, h0]; rfl
    omega

set_option maxRecDepth 100000 in
set_option maxHeartbeats 1000000 in
theorem lawPlanSizes_any (n : Nat) (rs : List RelaD) (v : Value) (w : World) (hr : RelasIn n w v rs) (hn : n ≤ w.heap.size) :
    Calls Try.prog 6 #[v] w fun e w' => e = .returned (.bool true) ∧ Keep (fun b => b < w.heap.size) w w' := by
  have hwl := wide_le hr
  obtain ⟨av, cv, rfl, hl, -, -⟩ := id hr
  have hll : (rs.map sizeD).length = rs.length := List.length_map _
  obtain ⟨ss, hss⟩ : ∃ ss, rs.map sizeD = ss := ⟨_, rfl⟩
  have c1 := planSizes_any n rs _ w hr hn
  rw [hss] at c1 hwl hll
  have c2 := fun W (hk : Keep (fun b => b < w.heap.size) w W) => planSizes_any n rs _ W (hr.keep (hk.mono fun b _ h => by omega)) (by have := hk.size; omega)
  have c3 := fun W (hk : Keep (fun b => b < w.heap.size) w W) => refSizes_any n rs _ W (hr.keep (hk.mono fun b _ h => by omega)) (by have := hk.size; omega)
  simp only [hss] at c2 c3
  have Xc1 := Lib.hid c1
  have Xc2 := Lib.hid c2
  have Xc3 := Lib.hid c3
  have Xhwl := Lib.hid hwl
  have Xhll := Lib.hid hll
  have Xhr := Lib.hid hr
  have Xhss := Lib.hid hss
  clear c1 c2 c3 hwl hll hr hss
  go_enter Try.func6, Try.ntmps6
  go_wp2_with fail
  refine Xc1.out.mono ?_
  rintro e W1 ⟨a1, rfl, o1, k1⟩
  have z1 := k1.size
  have d2 := Xc2.out W1 k1
  have Xo1 := Lib.hid o1
  have Xk1 := Lib.hid k1
  have Xd2 := Lib.hid d2
  clear o1 k1 d2
  go_wp2_with fail
  refine Xd2.out.mono ?_
  rintro e W2 ⟨b1, rfl, o2, k2⟩
  have z2 := k2.size
  have d3 := Xc3.out W2 (Xk1.out.trans (k2.mono fun b _ h => by omega))
  have Xo2 := Lib.hid o2
  have Xk2 := Lib.hid k2
  have Xd3 := Lib.hid d3
  clear o2 k2 d3
  go_wp2_with fail
  refine Xd3.out.mono ?_
  rintro e W3 ⟨want, rfl, o3, k3⟩
  have z3 := k3.size
  have hssl : ss.length ≤ 1073741824 := by have := Xhll.out; omega
  have o13 := (Xo1.out.keep Xk2.out (fun b _ h => h)).keep k3 (fun b _ h => by
    have := Xk2.out.size; omega)
  have ia := o13.sizes hssl Xhwl.out
  have iw := o3.sizes hssl Xhwl.out
  have hs := sameSizes_eq W3.heap.size a1 want ss W3 ia iw (Nat.le_refl _)
  obtain ⟨dvs, hdl, hdd, lo1⟩ := Xo1.out.loose
  have hdll : dvs.length ≤ 1073741824 := by omega
  have lo3 := (lo1.keep Xk2.out (fun b h => h)).keep k3 (fun b h => by omega)
  obtain ⟨aa, ca, rfl, -⟩ := id lo1
  obtain ⟨O, hO⟩ : ∃ O, w.heap.size = O := ⟨_, rfl⟩
  obtain ⟨H, hH⟩ : ∃ H, W1.heap.size = H := ⟨_, rfl⟩
  rw [hO, hH] at lo3
  rw [hO] at z1
  rw [hH] at z1 z2
  clear o13 ia iw lo1
  have Xhs := Lib.hid hs
  have Xk3 := Lib.hid k3
  have Xo3 := Lib.hid o3
  have Xlo3 := Lib.hid lo3
  have XhO := Lib.hid hO
  have XhH := Lib.hid hH
  have Xhdl := Lib.hid hdl
  have Xhdd := Lib.hid hdd
  clear hs k3 o3 lo3 hO hH hdl hdd
  go_wp2_with fail
  refine Xhs.out.mono ?_
  rintro e W4 ⟨rfl, k4⟩
  have z4 := k4.size
  have lo4 := Xlo3.out.keep k4 (fun _ _ => trivial)
  have Xk4 := Lib.hid k4
  have Xlo4 := Lib.hid lo4
  clear k4 lo4
  go_wp2_with fail
  go_loopw [6] (fun i' wr => ∃ i : Nat, i ≤ dvs.length ∧ i' = .int .i64 (i : Int) ∧ Keep (fun b => b < O ∨ H ≤ b) W4 wr ∧ Loose wr (.slice aa dvs.length ca) O H dvs) (fun i _ => dvs.length - (intOf i).toNat)
  case atStart => exact ⟨0, by omega, rfl, Keep.refl _ _, Xlo4.out⟩
  case round =>
    obtain ⟨i, hi, rfl, hK, hL⟩ := hrel
    have hsz := hK.size
    by_cases hlt : i < dvs.length
    · have hlt1 : (i : Int) < dvs.length := by omega
      have hi0 : (0 : Int) ≤ i := by omega
      obtain ⟨d, hd⟩ : ∃ d, dvs[i]? = some d := ⟨_, List.getElem?_eq_getElem hlt⟩
      have hdm := List.mem_of_getElem? hd
      obtain ⟨g, rfl⟩ : ∃ g, aa = some ⟨g, 0, none⟩ := by
        obtain ⟨a', c', hv, h1, h2⟩ := id hL
        cases hv
        obtain ⟨g, cs, ha, -⟩ := h1 (by omega)
        exact ⟨g, ha⟩
      obtain ⟨ai, ci, hdv⟩ : ∃ a c, d.1 = .slice a d.2 c := by
        obtain ⟨a', c', hv, h1, h2⟩ := id hL
        obtain ⟨a, c, h, -⟩ := h2 d hdm
        exact ⟨a, c, h⟩
      have hcl : ∀ W, Loose W (.slice (some ⟨g, 0, none⟩) dvs.length ca) O H dvs → W.cell? ⟨g, i * 3 + 2, none⟩ = some (.slice ai d.2 ci) ∧ (∃ u, W.cell? ⟨g, i * 3 + 1, none⟩ = some u) ∧ g < W.heap.size ∧ O ≤ g ∧ g < H ∧ W.frozen? ⟨g, i * 3 + 1, none⟩ = false := by
        rintro W ⟨a', c', hv, h1, h2⟩
        cases hv
        obtain ⟨g', cs, ha, l1, l2, hg, hs, hc⟩ := h1 (by omega)
        cases ha
        have h3 := cells_of_block hg (i * 3 + 2) _ (by rw [Array.getElem?_toList]; exact hc i d hd)
        have h4 := cells_of_block hg (i * 3 + 1) (cs[i * 3 + 1]'(by omega)) (by rw [Array.getElem?_toList]; exact Array.getElem?_eq_getElem (by omega))
        rw [Nat.zero_add] at h3 h4
        exact ⟨by rw [h3, hdv], ⟨_, h4⟩, heap_lt hg, l1, l2, box_free hg _⟩
      obtain ⟨l, hl2⟩ : ∃ l, d.2 = l := ⟨_, rfl⟩
      rw [hl2] at hcl hdv
      have hll2 : l ≤ 1073741824 := by
        obtain ⟨s, hs1, hs2⟩ := Xhdd.out d hdm
        rw [← hl2, hs2]; exact Xhwl.out s hs1
      have XhK := Lib.hid hK
      have XhL := Lib.hid hL
      have Xhd := Lib.hid hd
      have Xhdm := Lib.hid hdm
      have Xhdv := Lib.hid hdv
      have Xhcl := Lib.hid hcl
      have Xhl2 := Lib.hid hl2
      clear hK hL hd hdm hdv hcl hl2
      go_wp2_with fail
      obtain ⟨Wo, hWo⟩ : ∃ W, W = wr := ⟨_, rfl⟩
      subst hWo
      go_loopw [7] (fun k' wr => ∃ k : Nat, k ≤ l ∧ k' = .int .i64 (k : Int) ∧ Keep (fun b => b < O ∨ H ≤ b) W4 wr ∧ Loose wr (.slice (some ⟨g, 0, none⟩) dvs.length ca) O H dvs) (fun i _ => l - (intOf i).toNat)
      case atStart => exact ⟨0, by omega, rfl, XhK.out, XhL.out⟩
      case round =>
        obtain ⟨k, hk, rfl, hK2, hL2⟩ := hrel
        have hsz2 := hK2.size
        obtain ⟨q1, ⟨u, q2⟩, q3, q4, q5, q6⟩ := Xhcl.out wr hL2
        by_cases hlt2 : k < l
        · have hlt21 : (k : Int) < l := by omega
          have hk0 : (0 : Int) ≤ k := by omega
          obtain ⟨gi, cs2, rfl, m1, m2, hgi, hcs2⟩ : ∃ gi cs2, ai = some ⟨gi, 0, none⟩ ∧ O ≤ gi ∧ gi < H ∧ wr.heap[gi]? = some (.cells cs2 3 (0, 0)) ∧ l ≤ cs2.size := by
            obtain ⟨a', c', hv, h1, h2⟩ := id hL2
            obtain ⟨a, c, h, h3⟩ := h2 d Xhdm.out
            rw [Xhdv.out, Xhl2.out] at h
            cases h
            have h5 := h3 (by rw [Xhl2.out]; omega)
            rw [Xhl2.out] at h5
            exact h5
          have p1 := cells_of_block hgi k (cs2[k]'(by omega)) (by rw [Array.getElem?_toList]; exact Array.getElem?_eq_getElem (by omega))
          have p2 := box_free hgi k
          rw [Nat.zero_add] at p1
          obtain ⟨u2, hu2⟩ : ∃ u, cs2[k]'(by omega) = u := ⟨_, rfl⟩
          rw [hu2] at p1
          have hgil := heap_lt hgi
          have hL3 := hL2.set_int hgi k (.int .i64 (-9))
          have hK3 : Keep (fun b => b < O ∨ H ≤ b) W4 (wr.setCell ⟨gi, k, none⟩ (.int .i64 (-9))) := hK2.trans (Keep.setCell _ _ _ (by simp; omega))
          clear hgi hcs2 hu2
          have XhK2 := Lib.hid hK2
          have XhL2 := Lib.hid hL2
          have XhL3 := Lib.hid hL3
          have XhK3 := Lib.hid hK3
          clear hK2 hL2 hL3 hK3
          go_wp2_with fail
          go_roundw
          case rel => exact ⟨k + 1, by omega, by go_num, XhK3.out, XhL3.out⟩
          case measure => simp [intOf]; omega
        · have hkl : l = k := by omega
          subst hkl
          have hlt20 : ¬ (l : Int) < l := by omega
          have hL3 := hL2.set_row i (.int .i64 (-9))
          have hK3 : Keep (fun b => b < O ∨ H ≤ b) W4 (wr.setCell ⟨g, i * 3 + 1, none⟩ (.int .i64 (-9))) := hK2.trans (Keep.setCell _ _ _ (by simp; omega))
          have XhK2 := Lib.hid hK2
          have XhL2 := Lib.hid hL2
          have XhL3 := Lib.hid hL3
          have XhK3 := Lib.hid hK3
          clear hK2 hL2 hL3 hK3
          go_wp2_with fail
          go_roundw
          case rel => exact ⟨i + 1, by omega, by go_num, XhK3.out, XhL3.out⟩
          case measure => simp [intOf]; omega
    · obtain rfl : i = dvs.length := by omega
      have hlt0 : ¬ (dvs.length : Int) < dvs.length := by omega
      have hH2 := XhH.out
      have kz : Keep (fun b => H ≤ b ∧ b < W3.heap.size) W3 wr := (Xk4.out.mono fun _ _ _ => trivial).trans (hK.mono fun b _ h => .inr h.1)
      have ob := (Xo2.out.keep Xk3.out (fun b _ h => h)).keep kz (fun b h1 h2 => ⟨by omega, h2⟩)
      have ow := Xo3.out.keep kz (fun b h1 h2 => ⟨by omega, h2⟩)
      have hs2 := sameSizes_eq wr.heap.size b1 want ss wr (ob.sizes hssl Xhwl.out) (ow.sizes hssl Xhwl.out) (Nat.le_refl _)
      have kw : Keep (fun b => b < w.heap.size) w wr := (((Xk1.out.trans (Xk2.out.mono fun b _ h => by have := XhO.out; omega)).trans (Xk3.out.mono fun b _ h => by have := XhO.out; omega)).trans (Xk4.out.mono fun _ _ _ => trivial)).trans (hK.mono fun b _ h => .inl (by have := XhO.out; omega))
      clear ob ow kz
      have XhK := Lib.hid hK
      have XhL := Lib.hid hL
      have Xhs2 := Lib.hid hs2
      have Xkw := Lib.hid kw
      clear hK hL hs2 kw
      go_wp2_with fail
      refine Xhs2.out.mono ?_
      rintro e W6 ⟨rfl, k6⟩
      have hkn := known_any W6
      have hkw := (Xkw.out.trans (k6.mono fun _ _ _ => trivial))
      have z6 := hkw.size
      have Xhkn := Lib.hid hkn
      have Xhkw := Lib.hid hkw
      clear hkn hkw
      go_wp2_with fail
      refine Xhkn.out.mono ?_
      rintro e W7 ⟨rfl, k7⟩
      go_wp2_with fail
      refine bodyPost_ret (v := .bool true) (by simp [results, Try.results6, go_sem]) rfl ?_
      exact ⟨rfl, Xhkw.out.trans (k7.mono fun b _ h => by omega)⟩
end Go.Proofs

/- Layer 16 (plan): the document's SameInts and SameTexts only read. -/
namespace Go.Proofs
open Go.RowKit Go.Ink
set_option linter.unusedVariables false
set_option linter.unusedSimpArgs false
attribute [local go_sem] Oper.semAt_some


set_option maxRecDepth 100000 in
theorem refSameInts_q (n : Nat) (va vb : Value) (xs ys : List Int) (w : World) (ha : IntsIn n w va xs) (hb : IntsIn n w vb ys) (hn : n ≤ w.heap.size) :
    Calls Try.prog 35 #[va, vb] w fun e w' => e = .returned (.bool (decide (xs = ys))) ∧ ∃ m, w' = w.drewN m := by
  obtain ⟨aa, ca, rfl, hla, hca, hea⟩ := id ha
  obtain ⟨ab, cb, rfl, hlb, hcb, heb⟩ := id hb
  have Xha := Lib.hid ha
  have Xhb := Lib.hid hb
  have Xhea := Lib.hid hea
  have Xheb := Lib.hid heb
  clear ha hb hea heb
  go_enter Try.func35, Try.ntmps35
  by_cases hl : xs.length = ys.length
  · have hl1 : ((xs.length : Int) != ys.length) = false := by simp [hl]
    have Xhl := Lib.hid hl
    clear hl
    go_wp2_with fail
    go_loopw [5] (fun i wr => ∃ k : Nat, k ≤ xs.length ∧ i = .int .i64 (k : Int) ∧ (∃ m, wr = w.drewN m) ∧ ∀ j, j < k → xs[j]? = ys[j]?) (fun i _ => xs.length - (intOf i).toNat)
    case atStart => exact ⟨0, by omega, rfl, ⟨0, rfl⟩, fun j h => by omega⟩
    case round =>
      obtain ⟨k, hk, rfl, hM, hall⟩ := hrel
      have hK : Keep (fun _ => True) w wr := by obtain ⟨m, rfl⟩ := hM; exact Keep.drewN' _ _ _
      have XhM := Lib.hid hM
      clear hM
      have hll := Xhl.out
      by_cases hlt : k < xs.length
      · obtain ⟨x, hx⟩ : ∃ x, xs[k]? = some x := ⟨_, List.getElem?_eq_getElem hlt⟩
        obtain ⟨y, hy⟩ : ∃ y, ys[k]? = some y := ⟨_, List.getElem?_eq_getElem (by omega)⟩
        obtain ⟨ba, oa, rfl, hba, hxa⟩ := Xhea.out k x hx
        obtain ⟨bb, ob, rfl, hbb, hyb⟩ := Xheb.out k y hy
        have f1 := hK.cell hxa trivial
        have f2 := hK.cell hyb trivial
        simp only [Nat.mul_one] at f1 f2
        have hs := hK.size
        have hb1 : ba < wr.heap.size := by omega
        have hb2 : bb < wr.heap.size := by omega
        have hlt1 : (k : Int) < xs.length := by omega
        have hlt2 : (k : Int) < ys.length := by omega
        have hk0 : (0 : Int) ≤ k := by omega
        by_cases hxy : x = y
        · have hne : (x != y) = false := by simp [hxy]
          have hall2 : ∀ j, j < k + 1 → xs[j]? = ys[j]? := fun j hj => by
            rcases Nat.lt_succ_iff_lt_or_eq.1 hj with h | rfl
            · exact hall j h
            · rw [hx, hy, hxy]
          clear hall hx hy hxy hxa hyb hl1
          have Xhall2 := Lib.hid hall2
          have XhK := Lib.hid hK
          clear hall2 hK
          go_wp2_with fail
          go_quiet (fail)
          go_wp2_with fail
          go_roundw
          case rel => exact ⟨k + 1, by omega, by go_num, (by obtain ⟨m, h⟩ := XhM.out; rw [h, World.drewN_drewN]; exact ⟨_, rfl⟩), Xhall2.out⟩
          case measure => simp [intOf]; omega
        · have hne : (x != y) = true := by simp [hxy]
          have hno : decide (xs = ys) = false := by
            simp only [decide_eq_false_iff_not]
            intro e; subst e; rw [hx] at hy; cases hy; exact hxy rfl
          clear hall hx hy hxy hxa hyb hl1
          have Xhno := Lib.hid hno
          have XhK := Lib.hid hK
          clear hno hK
          go_wp2_with fail
          go_quiet (fail)
          go_wp2_with fail
          go_ret
          exact ⟨by rw [Xhno.out]; try rfl, (by obtain ⟨m, h⟩ := XhM.out; rw [h, World.drewN_drewN]; exact ⟨_, rfl⟩)⟩
      · have hyes : decide (xs = ys) = true := by
          simp only [decide_eq_true_eq]
          exact eq_at hll fun j hj => hall j (by omega)
        clear hall
        have Xhyes := Lib.hid hyes
        have XhK := Lib.hid hK
        clear hyes hK
        go_wp2_with fail
        go_ret
        exact ⟨by rw [Xhyes.out]; try rfl, XhM.out⟩
  · have hl1 : ((xs.length : Int) != ys.length) = true := by simp; omega
    have hno : decide (xs = ys) = false := by
      simp only [decide_eq_false_iff_not]
      intro e; exact hl (by rw [e])
    clear hl
    have Xhno := Lib.hid hno
    clear hno
    go_wp2_with fail
    go_ret
    exact ⟨by rw [Xhno.out]; try rfl, ⟨0, rfl⟩⟩


set_option maxRecDepth 100000 in
theorem refSameTexts_q (n : Nat) (va vb : Value) (xs ys : List ByteArray) (w : World) (ha : StrsIn n w va xs) (hb : StrsIn n w vb ys) (hn : n ≤ w.heap.size) :
    Calls Try.prog 78 #[va, vb] w fun e w' => e = .returned (.bool (decide (xs = ys))) ∧ ∃ m, w' = w.drewN m := by
  obtain ⟨aa, ca, rfl, hla, hca, hea⟩ := id ha
  obtain ⟨ab, cb, rfl, hlb, hcb, heb⟩ := id hb
  have Xha := Lib.hid ha
  have Xhb := Lib.hid hb
  have Xhea := Lib.hid hea
  have Xheb := Lib.hid heb
  clear ha hb hea heb
  go_enter Try.func78, Try.ntmps78
  by_cases hl : xs.length = ys.length
  · have hl1 : ((xs.length : Int) != ys.length) = false := by simp [hl]
    have Xhl := Lib.hid hl
    clear hl
    go_wp2_with fail
    go_loopw [5] (fun i wr => ∃ k : Nat, k ≤ xs.length ∧ i = .int .i64 (k : Int) ∧ (∃ m, wr = w.drewN m) ∧ ∀ j, j < k → xs[j]? = ys[j]?) (fun i _ => xs.length - (intOf i).toNat)
    case atStart => exact ⟨0, by omega, rfl, ⟨0, rfl⟩, fun j h => by omega⟩
    case round =>
      obtain ⟨k, hk, rfl, hM, hall⟩ := hrel
      have hK : Keep (fun _ => True) w wr := by obtain ⟨m, rfl⟩ := hM; exact Keep.drewN' _ _ _
      have XhM := Lib.hid hM
      clear hM
      have hll := Xhl.out
      by_cases hlt : k < xs.length
      · obtain ⟨x, hx⟩ : ∃ x, xs[k]? = some x := ⟨_, List.getElem?_eq_getElem hlt⟩
        obtain ⟨y, hy⟩ : ∃ y, ys[k]? = some y := ⟨_, List.getElem?_eq_getElem (by omega)⟩
        obtain ⟨ba, oa, rfl, hba, hxa⟩ := Xhea.out k x hx
        obtain ⟨bb, ob, rfl, hbb, hyb⟩ := Xheb.out k y hy
        have f1 := hK.cell hxa trivial
        have f2 := hK.cell hyb trivial
        simp only [Nat.mul_one] at f1 f2
        have hs := hK.size
        have hb1 : ba < wr.heap.size := by omega
        have hb2 : bb < wr.heap.size := by omega
        have hlt1 : (k : Int) < xs.length := by omega
        have hlt2 : (k : Int) < ys.length := by omega
        have hk0 : (0 : Int) ≤ k := by omega
        by_cases hxy : x = y
        · have hne : (x.toList == y.toList) = true := bytes_same hxy
          have hall2 : ∀ j, j < k + 1 → xs[j]? = ys[j]? := fun j hj => by
            rcases Nat.lt_succ_iff_lt_or_eq.1 hj with h | rfl
            · exact hall j h
            · rw [hx, hy, hxy]
          clear hall hx hy hxy hxa hyb hl1
          have Xhall2 := Lib.hid hall2
          have XhK := Lib.hid hK
          clear hall2 hK
          go_wp2_with fail
          go_quiet (fail)
          go_wp2_with fail
          go_roundw
          case rel => exact ⟨k + 1, by omega, by go_num, (by obtain ⟨m, h⟩ := XhM.out; rw [h, World.drewN_drewN]; exact ⟨_, rfl⟩), Xhall2.out⟩
          case measure => simp [intOf]; omega
        · have hne : (x.toList == y.toList) = false := bytes_other hxy
          have hno : decide (xs = ys) = false := by
            simp only [decide_eq_false_iff_not]
            intro e; subst e; rw [hx] at hy; cases hy; exact hxy rfl
          clear hall hx hy hxy hxa hyb hl1
          have Xhno := Lib.hid hno
          have XhK := Lib.hid hK
          clear hno hK
          go_wp2_with fail
          go_quiet (fail)
          go_wp2_with fail
          go_ret
          exact ⟨by rw [Xhno.out]; try rfl, (by obtain ⟨m, h⟩ := XhM.out; rw [h, World.drewN_drewN]; exact ⟨_, rfl⟩)⟩
      · have hyes : decide (xs = ys) = true := by
          simp only [decide_eq_true_eq]
          exact eq_at hll fun j hj => hall j (by omega)
        clear hall
        have Xhyes := Lib.hid hyes
        have XhK := Lib.hid hK
        clear hyes hK
        go_wp2_with fail
        go_ret
        exact ⟨by rw [Xhyes.out]; try rfl, XhM.out⟩
  · have hl1 : ((xs.length : Int) != ys.length) = true := by simp; omega
    have hno : decide (xs = ys) = false := by
      simp only [decide_eq_false_iff_not]
      intro e; exact hl (by rw [e])
    clear hl
    have Xhno := Lib.hid hno
    clear hno
    go_wp2_with fail
    go_ret
    exact ⟨by rw [Xhno.out]; try rfl, ⟨0, rfl⟩⟩

end Go.Proofs
