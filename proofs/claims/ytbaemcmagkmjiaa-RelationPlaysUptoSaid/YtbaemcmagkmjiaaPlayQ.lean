/- Layer 4, the law RelationPlays: the walk. -/
import Derived.Test.YtbaemcmagkmjiaaProg
import Derived.Test.YtbaemcmagkmjiaaPlayOToPlayP
import Derived.Test.YtbaemcmagkmjiaaRelZ
import Derived.Test.YtbaemcmagkmjiaaRelJToHoistB
namespace Go.Proofs
open Go.RowKit Go.Ink
set_option linter.unusedVariables false
set_option linter.unusedSimpArgs false
attribute [local go_sem] Oper.semAt_some

theorem hV_ptr (h : Option HalfD) : ∃ v, hV h = .pointer v := by cases h <;> exact ⟨_, rfl⟩
theorem tV_ptr (d : Option SlotD) : ∃ v, tV d = .pointer v ∧ v.isNone = d.isNone := by cases d <;> exact ⟨_, rfl, rfl⟩
theorem rV_ptr (d : Option SlotD) : ∃ v, rV d = .pointer v ∧ v.isNone = d.isNone := by cases d <;> exact ⟨_, rfl, rfl⟩

set_option maxRecDepth 100000 in
set_option maxHeartbeats 8000000 in
theorem plays_law (one two : Int) (vs : Value) (ss : List StepD) (w : World) (h : StepsIn w.heap.size w vs ss) (hl : ss.length ≤ 1048576) :
    Calls Try.prog 5 #[.int .i64 one, .int .i64 two, vs] w fun e w' => e = .returned (.bool true) ∧ Keep (fun b => b < w.heap.size) w w' := by
  obtain ⟨a0, c0, rfl, hl0, hcs, hel⟩ := id h
  obtain ⟨bt, hbt⟩ : ∃ bt, w.heap.size = bt := ⟨_, rfl⟩
  obtain ⟨br, hbr⟩ : ∃ br, w.heap.size + 1 = br := ⟨_, rfl⟩
  obtain ⟨W0, hW0⟩ : ∃ W0, (w.alloc (.cells #[.pointer none, .pointer none, .pointer none] 56)).alloc (.cells #[.pointer none, .pointer none, .pointer none] 57) = W0 := ⟨_, rfl⟩
  have hS0 : PlaySt w bt br (fun _ => none) W0 := by
    rw [← hW0, ← hbt, ← hbr]
    refine play_start w _ _ _ ((Keep.alloc _ _ _).trans (Keep.alloc _ _ _)) (Nat.le_refl _) (by omega) (by omega) ⟨56, old_block (new_block _ _) _⟩ ⟨57, ?_⟩
    have := new_block (w.alloc (.cells #[.pointer none, .pointer none, .pointer none] 56)) (.cells #[.pointer none, .pointer none, .pointer none] 57)
    simpa using this
  have hnew := newT_any one W0
  obtain ⟨q1, hq1⟩ : ∃ q, errA one = q := ⟨_, rfl⟩
  obtain ⟨q2, hq2⟩ : ∃ q, errA two = q := ⟨_, rfl⟩
  rw [hq1] at hnew
  clear h
  have Xhel := Lib.hid hel
  have Xhbt := Lib.hid hbt
  have Xhbr := Lib.hid hbr
  have XhW0 := Lib.hid hW0
  have XhS0 := Lib.hid hS0
  have Xhnew := Lib.hid hnew
  have Xhq1 := Lib.hid hq1
  have Xhq2 := Lib.hid hq2
  clear hel hbt hbr hW0 hS0 hnew hq1 hq2
  go_enter Try.func5, Try.ntmps5
  go_wp2_with fail
  rw [XhW0.out, Xhbr.out, Xhbt.out]
  refine Xhnew.out.mono ?_
  rintro e W1 ⟨h0, rfl, k1, half1, new1, lt1⟩
  have S1 := XhS0.out.stay k1 (fun _ _ => trivial)
  have M1 := S1.mid (to := 0) (by omega) half1 (fun b hb => XhS0.out.new (lt1 b hb))
  have c1 := S1.ct.cell (k := 0) (by omega)
  have f1 := S1.ct.free 0
  obtain ⟨v0, hv0⟩ : ∃ v, hV h0 = .pointer v := hV_ptr _
  rw [hv0] at M1
  rw [hv0]
  obtain ⟨W2, hW2⟩ : ∃ W2, W1.setCell ⟨bt, 0, none⟩ (.pointer v0) = W2 := ⟨_, rfl⟩
  rw [hW2] at M1
  have hr1 := newR_any one new1 W2 M1.half
  rw [Xhq1.out] at hr1
  clear k1 half1 new1 lt1
  have XS1 := Lib.hid S1
  have XM1 := Lib.hid M1
  have Xhv0 := Lib.hid hv0
  have XhW2 := Lib.hid hW2
  have Xhr1 := Lib.hid hr1
  clear S1 M1 hv0 hW2 hr1
  go_wp2_with fail
  rw [XhW2.out]
  refine Xhr1.out.mono ?_
  rintro e W3 ⟨d0, rfl, k3, hd0, hc0, ht0⟩
  have S3 := XM1.out.put (who := 0) (by omega) (by omega) k3 hd0 (.inl rfl) hc0
  have M3 := XM1.out.stay k3 (fun _ _ => trivial)
  have c3 := M3.cr.cell (k := 0) (by omega)
  have f3 := M3.cr.free 0
  obtain ⟨v1, hv1, -⟩ := rV_ptr d0
  rw [hv1] at S3
  rw [hv1]
  obtain ⟨W4, hW4⟩ : ∃ W4, W3.setCell ⟨br, 0, none⟩ (.pointer v1) = W4 := ⟨_, rfl⟩
  rw [hW4] at S3
  have hnew2 := newT_any two W4
  rw [Xhq2.out] at hnew2
  clear k3 M3 hd0 hc0
  have XS3 := Lib.hid S3
  have Xhv1 := Lib.hid hv1
  have XhW4 := Lib.hid hW4
  have Xhnew2 := Lib.hid hnew2
  have Xht0 := Lib.hid ht0
  clear S3 hv1 hW4 hnew2 ht0
  go_wp2_with fail
  rw [XhW4.out]
  refine Xhnew2.out.mono ?_
  rintro e W5 ⟨h1, rfl, k5, half5, new5, lt5⟩
  have S5 := XS3.out.stay k5 (fun _ _ => trivial)
  have M5 := S5.mid (to := 1) (by omega) half5 (fun b hb => XS3.out.new (lt5 b hb))
  have c5 := S5.ct.cell (k := 1) (by omega)
  have f5 := S5.ct.free 1
  obtain ⟨v2, hv2⟩ : ∃ v, hV h1 = .pointer v := hV_ptr _
  rw [hv2] at M5
  rw [hv2]
  obtain ⟨W6, hW6⟩ : ∃ W6, W5.setCell ⟨bt, 1, none⟩ (.pointer v2) = W6 := ⟨_, rfl⟩
  rw [hW6] at M5
  have hr2 := newR_any two new5 W6 M5.half
  rw [Xhq2.out] at hr2
  clear k5 half5 new5 lt5 S5 c1 f1 c3 f3
  have XM5 := Lib.hid M5
  have Xhv2 := Lib.hid hv2
  have XhW6 := Lib.hid hW6
  have Xhr2 := Lib.hid hr2
  clear M5 hv2 hW6 hr2
  go_wp2_with fail
  rw [XhW6.out]
  refine Xhr2.out.mono ?_
  rintro e W7 ⟨d1, rfl, k7, hd1, hc1', ht1⟩
  have S7 := XM5.out.put (who := 1) (by omega) (by omega) k7 hd1 (.inl rfl) hc1'
  have M7 := XM5.out.stay k7 (fun _ _ => trivial)
  have c7 := M7.cr.cell (k := 1) (by omega)
  have f7 := M7.cr.free 1
  obtain ⟨v3, hv3, -⟩ := rV_ptr d1
  rw [hv3] at S7
  rw [hv3]
  obtain ⟨W8, hW8⟩ : ∃ W8, W7.setCell ⟨br, 1, none⟩ (.pointer v3) = W8 := ⟨_, rfl⟩
  rw [hW8] at S7
  obtain ⟨S, hS⟩ : ∃ S, upd (upd (fun _ => none) 0 d0) 1 d1 = S := ⟨_, rfl⟩
  rw [hS] at S7
  have hfew : ∀ i, i < 3 → (tsS (S i)).length ≤ 0 := by
    rw [← hS]
    exact upd_few (upd_few (fun i _ => by simp [tsS]) (by rw [Xht0.out]; simp)) (by rw [ht1]; simp)
  have eS0 : S 0 = d0 := by rw [← hS]; rfl
  have eS1 : S 1 = d1 := by rw [← hS]; rfl
  have e0 := S7.ct.cell (k := 0) (by omega)
  have e1 := S7.cr.cell (k := 0) (by omega)
  have e2 := S7.ct.cell (k := 1) (by omega)
  have e3 := S7.cr.cell (k := 1) (by omega)
  simp only [eS0, eS1] at e0 e1 e2 e3
  obtain ⟨u0, hu0, i0⟩ := tV_ptr d0
  obtain ⟨u1, hu1, i1⟩ := rV_ptr d0
  obtain ⟨u2, hu2, i2⟩ := tV_ptr d1
  obtain ⟨u3, hu3, i3⟩ := rV_ptr d1
  obtain ⟨z0, hz0⟩ : ∃ z, d0.isNone = z := ⟨_, rfl⟩
  obtain ⟨z1, hz1⟩ : ∃ z, d1.isNone = z := ⟨_, rfl⟩
  rw [hz0] at i0 i1
  rw [hz1] at i2 i3
  rw [hu0] at e0
  rw [hu1] at e1
  rw [hu2] at e2
  rw [hu3] at e3
  clear k7 M7 hd1 hc1' ht1 eS0 eS1 c5 f5 hS
  have XS7 := Lib.hid S7
  have Xhv3 := Lib.hid hv3
  have XhW8 := Lib.hid hW8
  have Xhfew := Lib.hid hfew
  have Xhu0 := Lib.hid hu0
  have Xhu1 := Lib.hid hu1
  have Xhu2 := Lib.hid hu2
  have Xhu3 := Lib.hid hu3
  have Xhz0 := Lib.hid hz0
  have Xhz1 := Lib.hid hz1
  clear S7 hv3 hW8 hfew hu0 hu1 hu2 hu3 hz0 hz1
  go_wp2_with fail
  rw [XhW8.out]
  refine (num_any _ _).mono ?_
  rintro e w1 ⟨rfl, hw1⟩
  have hw1 := hw1.symm
  subst hw1
  go_wp2_with fail
  refine (num_any _ _).mono ?_
  rintro e w1 ⟨rfl, hw1⟩
  have hw1 := hw1.symm
  subst hw1
  go_wp2_with fail
  clear e0 e1 e2 e3 i0 i1 i2 i3 c7 f7 hcs hl0
  clear Xhnew Xhr1 Xhnew2 Xhr2 XM1 XM5 XS1 XS3 XhW2 XhW4 XhW6 XhW8 Xhv0 Xhv1 Xhv2 Xhv3 Xhu0 Xhu1 Xhu2 Xhu3 Xhz0 Xhz1 Xht0 Xhq1 Xhq2 XhW0 XhS0
  go_loopw [13] (fun i wr => ∃ (k : Nat) (S : Nat → Option SlotD), k ≤ ss.length ∧ i = .int .i64 (k : Int) ∧ PlaySt w bt br S wr ∧ ∀ j, j < 3 → (tsS (S j)).length ≤ k) (fun i _ => ss.length - (intOf i).toNat)
  case atStart => exact ⟨0, S, by omega, rfl, XS7.out, Xhfew.out⟩
  case round =>
    clear XS7 Xhfew
    obtain ⟨k, S, hk, rfl, hs, hfew⟩ := hrel
    by_cases hlt : k < ss.length
    · obtain ⟨⟨kd, wh, fr, tt, lv, tu, cols, key⟩, hx⟩ : ∃ x, ss[k]? = some x := ⟨_, List.getElem?_eq_getElem hlt⟩
      obtain ⟨b, o, rfl, hbm, vt, vc, vk, hcell, hin⟩ := Xhel.out k _ hx
      obtain ⟨at', ct, rfl, -, -, -⟩ := id hin.1
      obtain ⟨ac, cc, rfl, -, -, -⟩ := id hin.2.1
      obtain ⟨ak, ck, rfl, -, -, -⟩ := id hin.2.2.1
      have hc : ∀ j v, [Value.int .i64 kd, .int .i64 wh, .int .i64 fr, .int .i64 tt, .int .i64 lv, .slice at' tu.length ct, .slice ac cols.length cc, .slice ak key.length ck][j]? = some v → wr.cell? ⟨b, o + k * 8 + j, none⟩ = some v := fun j v hj => hs.pl.keep.cell (hcell j v hj) hbm
      have g0 := hc 0 _ rfl
      have g1 := hc 1 _ rfl
      have g2 := hc 2 _ rfl
      have g3 := hc 3 _ rfl
      have g4 := hc 4 _ rfl
      have g5 := hc 5 _ rfl
      have g6 := hc 6 _ rfl
      have g7 := hc 7 _ rfl
      simp only [Nat.add_zero] at g0
      have hsz := hs.pl.keep.size
      have hbw : b < wr.heap.size := by omega
      have hlt1 : (k : Int) < ss.length := by omega
      have hk0 : (0 : Int) ≤ k := by omega
      obtain ⟨nb, hnb⟩ : ∃ nb, wr.heap.size = nb := ⟨_, rfl⟩
      obtain ⟨X1, hX1⟩ : ∃ X1, wr.alloc (.cells #[.int .i64 kd, .int .i64 wh, .int .i64 fr, .int .i64 tt, .int .i64 lv, .slice at' tu.length ct, .slice ac cols.length cc, .slice ak key.length ck] 61) = X1 := ⟨_, rfl⟩
      have k1 : Keep (fun _ => True) wr X1 := by rw [← hX1]; exact Keep.alloc _ _ _
      have b1 : X1.heap[nb]? = some (.cells #[.int .i64 kd, .int .i64 wh, .int .i64 fr, .int .i64 tt, .int .i64 lv, .slice at' tu.length ct, .slice ac cols.length cc, .slice ak key.length ck] 61 (0, 0)) := by rw [← hX1, ← hnb]; exact new_block _ _
      have hs1 := hs.stay k1 (fun _ _ => trivial)
      have hnbs : ∀ i, i < 3 → offS (S i) nb := fun i hi => (hs.pl.here i hi).fresh (by omega)
      have hnb1 : nb ≠ bt ∧ nb ≠ br := by
        have h1 := hs.ct.lt
        have h2 := hs.cr.lt
        constructor <;> omega
      have c0 := cells_of_block b1 0 _ rfl
      have c1 := cells_of_block b1 1 _ rfl
      have c3 := cells_of_block b1 3 _ rfl
      simp only [Nat.zero_add] at c0 c1 c3
      have hlt0 := heap_lt b1
      clear hcell hc hx k1 hs
      have Xhin := Lib.hid hin
      have Xhfew := Lib.hid hfew
      have XhX1 := Lib.hid hX1
      have Xb1 := Lib.hid b1
      have Xhs1 := Lib.hid hs1
      have Xhnbs := Lib.hid hnbs
      have Xhnb := Lib.hid hnb
      have Xhnb1 := Lib.hid hnb1
      clear hin hfew hX1 b1 hs1 hnbs hnb hnb1
      go_wp2_with fail
      rw [XhX1.out, Xhnb.out]
      clear g0 g1 g2 g3 g4 g5 g6 g7
      refine (place_any _ _).mono ?_
      rintro e w1 ⟨who, hwho, rfl, hw1⟩
      have hw1 := hw1.symm
      subst hw1
      have hwho0 : (0 : Int) ≤ who := by omega
      have hwho1 : (who : Int) < 3 := by omega
      by_cases hk9 : kd = 9
      · subst hk9
        obtain ⟨pw, hpw, -⟩ := tV_ptr (S who)
        have cw := Xhs1.out.ct.cell hwho
        have hcp := copyT_any (Xhs1.out.pl.here who hwho)
        rw [hpw] at hcp cw
        have Xhcp := Lib.hid hcp
        have Xhpw := Lib.hid hpw
        clear hcp hpw
        go_wp2_with fail
        refine (place_any _ _).mono ?_
        rintro e w1 ⟨to', hto, rfl, hw1⟩
        have hw1 := hw1.symm
        subst hw1
        have hto0 : (0 : Int) ≤ to' := by omega
        have hto1 : (to' : Int) < 3 := by omega
        go_wp2_with fail
        refine Xhcp.out.mono ?_
        rintro e X2 ⟨hh, dc, rfl, gc, htc, halfc, hofc, hfrc⟩
        have hs2 := Xhs1.out.step hwho gc
        have b2 := gc.keep.heap Xb1.out ⟨(Xhs1.out.pl.here who hwho).off_out (Xhnbs.out who hwho), hlt0⟩
        have hoffc : ∀ b, ¬ hOff hh b → w.heap.size ≤ b ∧ b ≠ bt ∧ b ≠ br ∧ ∀ i, i < 3 → offS (upd S who dc i) b := fun b hb => by
          obtain ⟨h1, h2⟩ := hfrc b hb
          obtain ⟨h3, h4, h5, h6⟩ := Xhs1.out.new h1
          refine ⟨h3, h4, h5, fun i hi => ?_⟩
          by_cases hiw : i = who
          · subst hiw; rw [upd_same]; exact h2
          · rw [upd_other _ _ hiw]; exact h6 i hi
        have M2 := hs2.mid hto halfc hoffc
        have ct2 := hs2.ct.cell hto
        have fr2 := hs2.ct.free to'
        have hfew2 : ∀ i, i < 3 → (tsS (upd S who dc i)).length ≤ k := upd_few Xhfew.out (by rw [htc]; exact Xhfew.out who hwho)
        have hnbs2 : ∀ i, i < 3 → offS (upd S who dc i) nb := fun i hi => by
          by_cases hiw : i = who
          · subst hiw; rw [upd_same]; exact gc.off hlt0 (Xhnbs.out i hi)
          · rw [upd_other _ _ hiw]; exact Xhnbs.out i hi
        have hnh : hOff hh nb := Classical.byContradiction fun hn => by have := (hfrc nb hn).1; omega
        obtain ⟨S2, hS2⟩ : ∃ S2, upd S who dc = S2 := ⟨_, rfl⟩
        have hSw : S2 who = dc := by rw [← hS2]; exact upd_same _ _ _
        rw [← hSw] at hofc htc
        rw [hS2] at M2 hfew2 hnbs2 ct2
        obtain ⟨pv, hpv⟩ := hV_ptr hh
        obtain ⟨pc, hpc, -⟩ := tV_ptr (S2 to')
        rw [hpv] at M2
        rw [hpv]
        rw [hpc] at ct2
        obtain ⟨X3, hX3⟩ : ∃ X3, X2.setCell ⟨bt, to', none⟩ (.pointer pv) = X3 := ⟨_, rfl⟩
        have k3 : Keep (fun b => b ≠ bt) X2 X3 := by rw [← hX3]; exact Keep.setCell _ _ _ (by simp)
        have b3 := k3.heap b2 Xhnb1.out.1
        rw [hX3] at M2
        have hcr := copyR_any (M2.pl.here who hwho) M2.half hofc (fun b hb => (M2.off b hb).2.2.2 who hwho)
        obtain ⟨pq, hpq, -⟩ := rV_ptr (S2 who)
        have cr3 := M2.cr.cell hwho
        rw [hpq] at hcr cr3
        have cr4 : (X2.setCell ⟨bt, to', none⟩ (.pointer pv)).cell? ⟨br, who, none⟩ = some (.pointer pq) := by rw [hX3]; exact cr3
        have lt3 := M2.cr.lt
        clear cr3
        clear gc halfc hofc hfrc hoffc hs2 k3 b2 hS2 hSw c1 c3 c0 cw
        have XM2 := Lib.hid M2
        have Xhfew2 := Lib.hid hfew2
        have Xhnbs2 := Lib.hid hnbs2
        have XhX3 := Lib.hid hX3
        have Xb3 := Lib.hid b3
        have Xhcr := Lib.hid hcr
        have Xhpv := Lib.hid hpv
        have Xhpq := Lib.hid hpq
        have Xhnh := Lib.hid hnh
        have Xhtc := Lib.hid htc
        have Xhpc := Lib.hid hpc
        clear M2 hfew2 hnbs2 hX3 b3 hcr hpv hpq hnh htc hpc
        go_wp2_with fail
        rw [XhX3.out]
        clear cr4 ct2 fr2
        refine Xhcr.out.mono ?_
        rintro e X4 ⟨dn, rfl, k4, hdn, hcn, htn⟩
        have hs5 := XM2.out.put hto hwho k4 hdn (.inr rfl) hcn
        have M4 := XM2.out.stay k4 (fun _ _ => trivial)
        have cr4 := M4.cr.cell hto
        have fr4 := M4.cr.free to'
        obtain ⟨pn, hpn, in1⟩ := rV_ptr dn
        obtain ⟨pm, hpm, in2⟩ := tV_ptr dn
        rw [hpn] at hs5
        rw [hpn]
        obtain ⟨X5, hX5⟩ : ∃ X5, X4.setCell ⟨br, to', none⟩ (.pointer pn) = X5 := ⟨_, rfl⟩
        rw [hX5] at hs5
        have k5 : Keep (fun b => b ≠ br) X4 X5 := by rw [← hX5]; exact Keep.setCell _ _ _ (by simp)
        have b5 := k5.heap (k4.heap Xb3.out trivial) Xhnb1.out.2
        have hfew5 : ∀ i, i < 3 → (tsS (upd S2 to' dn i)).length ≤ k := upd_few Xhfew2.out (by rw [htn]; exact Xhfew2.out who hwho)
        have hnbs5 : ∀ i, i < 3 → offS (upd S2 to' dn i) nb := fun i hi => by
          by_cases hiw : i = to'
          · subst hiw
            rw [upd_same]
            refine Classical.byContradiction fun hn => ?_
            rcases hcn.use nb hn with h2 | h2 | h2
            · exact h2 Xhnh.out
            · exact h2.1 (Xhnbs2.out who hwho)
            · have := heap_lt Xb3.out; omega
          · rw [upd_other _ _ hiw]; exact Xhnbs2.out i hi
        obtain ⟨z, hz⟩ : ∃ z, dn.isNone = z := ⟨_, rfl⟩
        rw [hz] at in1 in2
        obtain ⟨S5, hS5⟩ : ∃ S5, upd S2 to' dn = S5 := ⟨_, rfl⟩
        have hSt : S5 to' = dn := by rw [← hS5]; exact upd_same _ _ _
        rw [hS5] at hs5 hfew5 hnbs5
        -- region 20
        obtain ⟨X6, hX6⟩ : ∃ X6, X5.drew = X6 := ⟨_, rfl⟩
        have k6 : Keep (fun _ => True) X5 X6 := by rw [← hX6]; exact Keep.drew _ _
        have hs6 := hs5.stay k6 (fun _ _ => trivial)
        have b6 := k6.heap b5 trivial
        have ct6 := hs6.ct.cell hto
        have cr6 := hs6.cr.cell hto
        rw [hSt, hpm] at ct6
        rw [hSt, hpn] at cr6
        have lt6 := hs6.ct.lt
        have lt6' := hs6.cr.lt
        have hS6 := And.intro ct6 cr6
        clear k4 hdn hcn htn hs5 M4 hpn hpm k5 b5 hz hS5 hSt k6 ct6 cr6
        have Xhs6 := Lib.hid hs6
        have Xb6 := Lib.hid b6
        have Xhfew5 := Lib.hid hfew5
        have Xhnbs5 := Lib.hid hnbs5
        have XhX5 := Lib.hid hX5
        have XhX6 := Lib.hid hX6
        have XhS6 := Lib.hid hS6
        clear hs6 b6 hfew5 hnbs5 hX5 hX6 hS6
        go_wp2_with fail
        rw [XhX5.out]
        refine region_hoist rfl (fun W => W.cell? ⟨bt, to', none⟩ = some (.pointer pm) ∧ W.cell? ⟨br, to', none⟩ = some (.pointer pn)) [] ?_
        rw [XhX6.out]
        refine hoist_take (i := 0) (v := ?_) rfl (by kernel_rfl) (by kernel_rfl) (by kernel_rfl) (by kernel_rfl) (fun _ _ _ h => h) XhS6.out (Or.inl ⟨by rfl, ?_⟩) ?_
        rotate_left
        · intro Wq hWq
          obtain ⟨x0, x1⟩ := hWq
          go_simp
          try with_reducible rfl
        try simp only [Act.put, List.getElem_toArray, List.getElem_cons_zero, List.getElem_cons_succ, List.setIfInBounds_toArray, List.set_cons_zero, List.set_cons_succ]
        refine hoist_take (i := 1) (v := ?_) rfl (by kernel_rfl) (by kernel_rfl) (by kernel_rfl) (by kernel_rfl) (fun _ _ _ h => h) XhS6.out (Or.inl ⟨by rfl, ?_⟩) ?_
        rotate_left
        · intro Wq hWq
          obtain ⟨x0, x1⟩ := hWq
          go_simp
          try with_reducible rfl
        try simp only [Act.put, List.getElem_toArray, List.getElem_cons_zero, List.getElem_cons_succ, List.setIfInBounds_toArray, List.set_cons_zero, List.set_cons_succ]
        refine hoist_take (i := 2) (v := ?_) rfl (by kernel_rfl) (by kernel_rfl) (by kernel_rfl) (by kernel_rfl) (fun _ _ _ h => h) XhS6.out (Or.inl ⟨by rfl, ?_⟩) ?_
        rotate_left
        · intro Wq hWq
          obtain ⟨x0, x1⟩ := hWq
          go_simp
          try with_reducible rfl
        try simp only [Act.put, List.getElem_toArray, List.getElem_cons_zero, List.getElem_cons_succ, List.setIfInBounds_toArray, List.set_cons_zero, List.set_cons_succ]
        refine hoist_take (i := 3) (v := ?_) rfl (by kernel_rfl) (by kernel_rfl) (by kernel_rfl) (by kernel_rfl) (fun _ _ _ h => h) XhS6.out (Or.inl ⟨by rfl, ?_⟩) ?_
        rotate_left
        · intro Wq hWq
          obtain ⟨x0, x1⟩ := hWq
          go_simp
          try with_reducible rfl
        try simp only [Act.put, List.getElem_toArray, List.getElem_cons_zero, List.getElem_cons_succ, List.setIfInBounds_toArray, List.set_cons_zero, List.set_cons_succ]
        refine hoist_take (i := 4) (v := ?_) rfl (by kernel_rfl) (by kernel_rfl) (by kernel_rfl) (by kernel_rfl) (fun _ _ _ h => h) XhS6.out (Or.inl ⟨by rfl, ?_⟩) ?_
        rotate_left
        · intro Wq hWq
          obtain ⟨x0, x1⟩ := hWq
          go_simp
          try with_reducible rfl
        try simp only [Act.put, List.getElem_toArray, List.getElem_cons_zero, List.getElem_cons_succ, List.setIfInBounds_toArray, List.set_cons_zero, List.set_cons_succ]
        refine hoist_take (i := 5) (v := ?_) rfl (by kernel_rfl) (by kernel_rfl) (by kernel_rfl) (by kernel_rfl) (fun _ _ _ h => h) XhS6.out (Or.inl ⟨by rfl, ?_⟩) ?_
        rotate_left
        · intro Wq hWq
          obtain ⟨x0, x1⟩ := hWq
          go_simp
          try with_reducible rfl
        try simp only [Act.put, List.getElem_toArray, List.getElem_cons_zero, List.getElem_cons_succ, List.setIfInBounds_toArray, List.set_cons_zero, List.set_cons_succ]
        refine hoist_take (i := 6) (v := ?_) rfl (by kernel_rfl) (by kernel_rfl) (by kernel_rfl) (by kernel_rfl) (fun _ _ _ h => h) XhS6.out (Or.inl ⟨by rfl, ?_⟩) ?_
        rotate_left
        · intro Wq hWq
          obtain ⟨x0, x1⟩ := hWq
          go_simp
          try with_reducible rfl
        try simp only [Act.put, List.getElem_toArray, List.getElem_cons_zero, List.getElem_cons_succ, List.setIfInBounds_toArray, List.set_cons_zero, List.set_cons_succ]
        refine hoist_take (i := 7) (v := ?_) rfl (by kernel_rfl) (by kernel_rfl) (by kernel_rfl) (by kernel_rfl) (fun _ _ _ h => h) XhS6.out (Or.inl ⟨by rfl, ?_⟩) ?_
        rotate_left
        · intro Wq hWq
          obtain ⟨x0, x1⟩ := hWq
          go_simp
          try with_reducible rfl
        try simp only [Act.put, List.getElem_toArray, List.getElem_cons_zero, List.getElem_cons_succ, List.setIfInBounds_toArray, List.set_cons_zero, List.set_cons_succ]
        refine hoist_take (i := 8) (v := ?_) rfl (by kernel_rfl) (by kernel_rfl) (by kernel_rfl) (by kernel_rfl) (fun _ _ _ h => h) XhS6.out (Or.inl ⟨by rfl, ?_⟩) ?_
        rotate_left
        · intro Wq hWq
          obtain ⟨x0, x1⟩ := hWq
          go_simp
          try with_reducible rfl
        try simp only [Act.put, List.getElem_toArray, List.getElem_cons_zero, List.getElem_cons_succ, List.setIfInBounds_toArray, List.set_cons_zero, List.set_cons_succ]
        refine hoist_done (by kernel_rfl) ?_
        clear cr4 fr4
        -- region 22
        obtain ⟨Yd, hYd⟩ : ∃ Yd, X6.drew = Yd := ⟨_, rfl⟩
        have kd0 : Keep (fun _ => True) X6 Yd := by rw [← hYd]; exact Keep.drew _ _
        have hsd := Xhs6.out.stay kd0 (fun _ _ => trivial)
        have bxd := kd0.heap Xb6.out trivial
        have hind := Xhin.out.stay (m := w.heap.size) hsd.pl.keep (Nat.le_refl _)
        obtain ⟨pt, hpt, -⟩ := tV_ptr (S5 who)
        obtain ⟨pr, hpr, -⟩ := rV_ptr (S5 who)
        have ct1 := hsd.ct.cell hwho
        have cr1 := hsd.cr.cell hwho
        rw [hpt] at ct1
        rw [hpr] at cr1
        have hpl := plays_any (hsd.pl.here who hwho) (by have := Xhfew5.out who hwho; omega) 9 wh fr tt lv _ _ _ tu cols key w.heap.size hsd.pl.keep.size hind.1 hind.2.1 hind.2.2.1 (hsd.pl.low who hwho) hind.2.2.2.1 hind.2.2.2.2
        rw [hpt, hpr] at hpl
        unfold stepV at hpl
        have hS : Yd.cell? ⟨bt, who, none⟩ = some (.pointer pt) ∧ Yd.cell? ⟨br, who, none⟩ = some (.pointer pr) ∧ Yd.cell? ⟨nb, 0, none⟩ = some (.int .i64 9) ∧ Yd.cell? ⟨nb, 1, none⟩ = some (.int .i64 wh) ∧ Yd.cell? ⟨nb, 2, none⟩ = some (.int .i64 fr) ∧ Yd.cell? ⟨nb, 3, none⟩ = some (.int .i64 tt) ∧ Yd.cell? ⟨nb, 4, none⟩ = some (.int .i64 lv) ∧ Yd.cell? ⟨nb, 5, none⟩ = some (.slice at' tu.length ct) ∧ Yd.cell? ⟨nb, 6, none⟩ = some (.slice ac cols.length cc) ∧ Yd.cell? ⟨nb, 7, none⟩ = some (.slice ak key.length ck) := ⟨ct1, cr1, by simpa using cells_of_block bxd 0 _ rfl, by simpa using cells_of_block bxd 1 _ rfl, by simpa using cells_of_block bxd 2 _ rfl, by simpa using cells_of_block bxd 3 _ rfl, by simpa using cells_of_block bxd 4 _ rfl, by simpa using cells_of_block bxd 5 _ rfl, by simpa using cells_of_block bxd 6 _ rfl, by simpa using cells_of_block bxd 7 _ rfl⟩
        have hlt3 := hsd.ct.lt
        have hlt4 := hsd.cr.lt
        have hlt5 := heap_lt bxd
        clear kd0 bxd hind ct1 cr1 hpt hpr
        have Xhsd := Lib.hid hsd
        have Xhpl := Lib.hid hpl
        have XhS := Lib.hid hS
        have XhYd := Lib.hid hYd
        clear hsd hpl hS hYd
        go_wp2_with fail
        refine region_hoist rfl (fun W => W.cell? ⟨bt, who, none⟩ = some (.pointer pt) ∧ W.cell? ⟨br, who, none⟩ = some (.pointer pr) ∧ W.cell? ⟨nb, 0, none⟩ = some (.int .i64 9) ∧ W.cell? ⟨nb, 1, none⟩ = some (.int .i64 wh) ∧ W.cell? ⟨nb, 2, none⟩ = some (.int .i64 fr) ∧ W.cell? ⟨nb, 3, none⟩ = some (.int .i64 tt) ∧ W.cell? ⟨nb, 4, none⟩ = some (.int .i64 lv) ∧ W.cell? ⟨nb, 5, none⟩ = some (.slice at' tu.length ct) ∧ W.cell? ⟨nb, 6, none⟩ = some (.slice ac cols.length cc) ∧ W.cell? ⟨nb, 7, none⟩ = some (.slice ak key.length ck)) [] ?_
        rw [XhYd.out]
        refine hoist_take (i := 0) (v := ?_) rfl (by kernel_rfl) (by kernel_rfl) (by kernel_rfl) (by kernel_rfl) (fun _ _ _ h => h) XhS.out (Or.inl ⟨by rfl, ?_⟩) ?_
        rotate_left
        · intro Wq hWq
          obtain ⟨x0, x1, _⟩ := hWq
          go_simp
          try with_reducible rfl
        try simp only [Act.put, List.getElem_toArray, List.getElem_cons_zero, List.getElem_cons_succ, List.setIfInBounds_toArray, List.set_cons_zero, List.set_cons_succ]
        refine hoist_take (i := 1) (v := ?_) rfl (by kernel_rfl) (by kernel_rfl) (by kernel_rfl) (by kernel_rfl) (fun _ _ _ h => h) XhS.out (Or.inl ⟨by rfl, ?_⟩) ?_
        rotate_left
        · intro Wq hWq
          obtain ⟨x0, x1, _⟩ := hWq
          go_simp
          try with_reducible rfl
        try simp only [Act.put, List.getElem_toArray, List.getElem_cons_zero, List.getElem_cons_succ, List.setIfInBounds_toArray, List.set_cons_zero, List.set_cons_succ]
        refine hoist_take (i := 2) (v := ?_) rfl (by kernel_rfl) (by kernel_rfl) (by kernel_rfl) (by kernel_rfl) (fun _ _ _ h => h) XhS.out (Or.inl ⟨by rfl, ?_⟩) ?_
        rotate_left
        · intro Wq hWq
          obtain ⟨x0, x1, _⟩ := hWq
          go_simp
          try with_reducible rfl
        try simp only [Act.put, List.getElem_toArray, List.getElem_cons_zero, List.getElem_cons_succ, List.setIfInBounds_toArray, List.set_cons_zero, List.set_cons_succ]
        refine hoist_take (i := 3) (v := ?_) rfl (by kernel_rfl) (by kernel_rfl) (by kernel_rfl) (by kernel_rfl) (fun _ _ _ h => h) XhS.out (Or.inl ⟨by rfl, ?_⟩) ?_
        rotate_left
        · intro Wq hWq
          obtain ⟨x0, x1, _⟩ := hWq
          go_simp
          try with_reducible rfl
        try simp only [Act.put, List.getElem_toArray, List.getElem_cons_zero, List.getElem_cons_succ, List.setIfInBounds_toArray, List.set_cons_zero, List.set_cons_succ]
        refine hoist_take (i := 4) (v := ?_) rfl (by kernel_rfl) (by kernel_rfl) (by kernel_rfl) (by kernel_rfl) (fun _ _ _ h => h) XhS.out (Or.inl ⟨by rfl, ?_⟩) ?_
        rotate_left
        · intro Wq hWq
          obtain ⟨x0, x1, _⟩ := hWq
          go_simp
          try with_reducible rfl
        try simp only [Act.put, List.getElem_toArray, List.getElem_cons_zero, List.getElem_cons_succ, List.setIfInBounds_toArray, List.set_cons_zero, List.set_cons_succ]
        refine hoist_take (i := 5) (v := ?_) rfl (by kernel_rfl) (by kernel_rfl) (by kernel_rfl) (by kernel_rfl) (fun _ _ _ h => h) XhS.out (Or.inl ⟨by rfl, ?_⟩) ?_
        rotate_left
        · intro Wq hWq
          obtain ⟨x0, x1, _⟩ := hWq
          go_simp
          try with_reducible rfl
        try simp only [Act.put, List.getElem_toArray, List.getElem_cons_zero, List.getElem_cons_succ, List.setIfInBounds_toArray, List.set_cons_zero, List.set_cons_succ]
        refine hoist_take (i := 6) (v := ?_) rfl (by kernel_rfl) (by kernel_rfl) (by kernel_rfl) (by kernel_rfl) (fun _ _ _ h => h) XhS.out (Or.inl ⟨by rfl, ?_⟩) ?_
        rotate_left
        · intro Wq hWq
          obtain ⟨x0, x1, x2, x3, x4, x5, x6, x7, x8, x9⟩ := hWq
          go_simp
          try with_reducible rfl
        try simp only [Act.put, List.getElem_toArray, List.getElem_cons_zero, List.getElem_cons_succ, List.setIfInBounds_toArray, List.set_cons_zero, List.set_cons_succ]
        refine hoist_one (i := 7) rfl (by kernel_rfl) (fun K hK => ?_)
        have XhK0 := Lib.hid hK
        clear hK
        go_wp2_with fail
        refine Xhpl.out.mono ?_
        rintro e Yf ⟨rfl, dF, gF, hF⟩
        have hsF := Xhsd.out.step hwho gF
        have hfewF := upd_few (j := who) (k := k + 1) (fun i hi => Nat.le_succ_of_le (Xhfew5.out i hi)) (show (tsS dF).length ≤ k + 1 by have := Xhfew5.out who hwho; omega)
        have hS2 : Yf.cell? ⟨bt, who, none⟩ = some (.pointer pt) ∧ Yf.cell? ⟨br, who, none⟩ = some (.pointer pr) ∧ Yf.cell? ⟨nb, 0, none⟩ = some (.int .i64 9) ∧ Yf.cell? ⟨nb, 1, none⟩ = some (.int .i64 wh) ∧ Yf.cell? ⟨nb, 2, none⟩ = some (.int .i64 fr) ∧ Yf.cell? ⟨nb, 3, none⟩ = some (.int .i64 tt) ∧ Yf.cell? ⟨nb, 4, none⟩ = some (.int .i64 lv) ∧ Yf.cell? ⟨nb, 5, none⟩ = some (.slice at' tu.length ct) ∧ Yf.cell? ⟨nb, 6, none⟩ = some (.slice ac cols.length cc) ∧ Yf.cell? ⟨nb, 7, none⟩ = some (.slice ak key.length ck) := by
          obtain ⟨x0, x1, x2, x3, x4, x5, x6, x7, x8, x9⟩ := XhS.out
          have o1 : outS (S5 who) bt ∧ bt < Yd.heap.size := ⟨(Xhsd.out.pl.here who hwho).off_out (Xhsd.out.pl.tb who hwho).1, hlt3⟩
          have o2 : outS (S5 who) br ∧ br < Yd.heap.size := ⟨(Xhsd.out.pl.here who hwho).off_out (Xhsd.out.pl.tb who hwho).2, hlt4⟩
          have o3 : outS (S5 who) nb ∧ nb < Yd.heap.size := ⟨(Xhsd.out.pl.here who hwho).off_out (Xhnbs5.out who hwho), hlt5⟩
          exact ⟨gF.keep.cell x0 o1, gF.keep.cell x1 o2, gF.keep.cell x2 o3, gF.keep.cell x3 o3, gF.keep.cell x4 o3, gF.keep.cell x5 o3, gF.keep.cell x6 o3, gF.keep.cell x7 o3, gF.keep.cell x8 o3, gF.keep.cell x9 o3⟩
        clear gF hF
        have XhsF := Lib.hid hsF
        have XhfewF := Lib.hid hfewF
        have XhS2 := Lib.hid hS2
        clear hsF hfewF hS2
        go_wp2_with fail
        refine XhK0.out _ _ (fun _ => XhS2.out) ?_
        refine hoist_one (i := 8) rfl (by kernel_rfl) (fun K hK => ?_)
        have XhK1 := Lib.hid hK
        clear hK
        go_wp2_with fail
        refine XhK1.out _ _ (fun _ => XhS2.out) ?_
        refine hoist_done (by kernel_rfl) ?_
        go_wp2_with fail
        go_roundw
        case rel => exact ⟨k + 1, _, by omega, by go_num, XhsF.out, XhfewF.out⟩
        case measure => simp [intOf]; omega
      · have e9 : (kd == 9) = false := beq_eq_false_iff_ne.2 hk9
        clear c1 c3
        -- region 22
        obtain ⟨Yd, hYd⟩ : ∃ Yd, X1.drew = Yd := ⟨_, rfl⟩
        have kd0 : Keep (fun _ => True) X1 Yd := by rw [← hYd]; exact Keep.drew _ _
        have hsd := Xhs1.out.stay kd0 (fun _ _ => trivial)
        have bxd := kd0.heap Xb1.out trivial
        have hind := Xhin.out.stay (m := w.heap.size) hsd.pl.keep (Nat.le_refl _)
        obtain ⟨pt, hpt, -⟩ := tV_ptr (S who)
        obtain ⟨pr, hpr, -⟩ := rV_ptr (S who)
        have ct1 := hsd.ct.cell hwho
        have cr1 := hsd.cr.cell hwho
        rw [hpt] at ct1
        rw [hpr] at cr1
        have hpl := plays_any (hsd.pl.here who hwho) (by have := Xhfew.out who hwho; omega) kd wh fr tt lv _ _ _ tu cols key w.heap.size hsd.pl.keep.size hind.1 hind.2.1 hind.2.2.1 (hsd.pl.low who hwho) hind.2.2.2.1 hind.2.2.2.2
        rw [hpt, hpr] at hpl
        unfold stepV at hpl
        have hS : Yd.cell? ⟨bt, who, none⟩ = some (.pointer pt) ∧ Yd.cell? ⟨br, who, none⟩ = some (.pointer pr) ∧ Yd.cell? ⟨nb, 0, none⟩ = some (.int .i64 kd) ∧ Yd.cell? ⟨nb, 1, none⟩ = some (.int .i64 wh) ∧ Yd.cell? ⟨nb, 2, none⟩ = some (.int .i64 fr) ∧ Yd.cell? ⟨nb, 3, none⟩ = some (.int .i64 tt) ∧ Yd.cell? ⟨nb, 4, none⟩ = some (.int .i64 lv) ∧ Yd.cell? ⟨nb, 5, none⟩ = some (.slice at' tu.length ct) ∧ Yd.cell? ⟨nb, 6, none⟩ = some (.slice ac cols.length cc) ∧ Yd.cell? ⟨nb, 7, none⟩ = some (.slice ak key.length ck) := ⟨ct1, cr1, by simpa using cells_of_block bxd 0 _ rfl, by simpa using cells_of_block bxd 1 _ rfl, by simpa using cells_of_block bxd 2 _ rfl, by simpa using cells_of_block bxd 3 _ rfl, by simpa using cells_of_block bxd 4 _ rfl, by simpa using cells_of_block bxd 5 _ rfl, by simpa using cells_of_block bxd 6 _ rfl, by simpa using cells_of_block bxd 7 _ rfl⟩
        have hlt3 := hsd.ct.lt
        have hlt4 := hsd.cr.lt
        have hlt5 := heap_lt bxd
        clear kd0 bxd hind ct1 cr1 hpt hpr
        have Xhsd := Lib.hid hsd
        have Xhpl := Lib.hid hpl
        have XhS := Lib.hid hS
        have XhYd := Lib.hid hYd
        clear hsd hpl hS hYd
        go_wp2_with fail
        refine region_hoist rfl (fun W => W.cell? ⟨bt, who, none⟩ = some (.pointer pt) ∧ W.cell? ⟨br, who, none⟩ = some (.pointer pr) ∧ W.cell? ⟨nb, 0, none⟩ = some (.int .i64 kd) ∧ W.cell? ⟨nb, 1, none⟩ = some (.int .i64 wh) ∧ W.cell? ⟨nb, 2, none⟩ = some (.int .i64 fr) ∧ W.cell? ⟨nb, 3, none⟩ = some (.int .i64 tt) ∧ W.cell? ⟨nb, 4, none⟩ = some (.int .i64 lv) ∧ W.cell? ⟨nb, 5, none⟩ = some (.slice at' tu.length ct) ∧ W.cell? ⟨nb, 6, none⟩ = some (.slice ac cols.length cc) ∧ W.cell? ⟨nb, 7, none⟩ = some (.slice ak key.length ck)) [] ?_
        rw [XhYd.out]
        refine hoist_take (i := 0) (v := ?_) rfl (by kernel_rfl) (by kernel_rfl) (by kernel_rfl) (by kernel_rfl) (fun _ _ _ h => h) XhS.out (Or.inl ⟨by rfl, ?_⟩) ?_
        rotate_left
        · intro Wq hWq
          obtain ⟨x0, x1, _⟩ := hWq
          go_simp
          try with_reducible rfl
        try simp only [Act.put, List.getElem_toArray, List.getElem_cons_zero, List.getElem_cons_succ, List.setIfInBounds_toArray, List.set_cons_zero, List.set_cons_succ]
        refine hoist_take (i := 1) (v := ?_) rfl (by kernel_rfl) (by kernel_rfl) (by kernel_rfl) (by kernel_rfl) (fun _ _ _ h => h) XhS.out (Or.inl ⟨by rfl, ?_⟩) ?_
        rotate_left
        · intro Wq hWq
          obtain ⟨x0, x1, _⟩ := hWq
          go_simp
          try with_reducible rfl
        try simp only [Act.put, List.getElem_toArray, List.getElem_cons_zero, List.getElem_cons_succ, List.setIfInBounds_toArray, List.set_cons_zero, List.set_cons_succ]
        refine hoist_take (i := 2) (v := ?_) rfl (by kernel_rfl) (by kernel_rfl) (by kernel_rfl) (by kernel_rfl) (fun _ _ _ h => h) XhS.out (Or.inl ⟨by rfl, ?_⟩) ?_
        rotate_left
        · intro Wq hWq
          obtain ⟨x0, x1, _⟩ := hWq
          go_simp
          try with_reducible rfl
        try simp only [Act.put, List.getElem_toArray, List.getElem_cons_zero, List.getElem_cons_succ, List.setIfInBounds_toArray, List.set_cons_zero, List.set_cons_succ]
        refine hoist_take (i := 3) (v := ?_) rfl (by kernel_rfl) (by kernel_rfl) (by kernel_rfl) (by kernel_rfl) (fun _ _ _ h => h) XhS.out (Or.inl ⟨by rfl, ?_⟩) ?_
        rotate_left
        · intro Wq hWq
          obtain ⟨x0, x1, _⟩ := hWq
          go_simp
          try with_reducible rfl
        try simp only [Act.put, List.getElem_toArray, List.getElem_cons_zero, List.getElem_cons_succ, List.setIfInBounds_toArray, List.set_cons_zero, List.set_cons_succ]
        refine hoist_take (i := 4) (v := ?_) rfl (by kernel_rfl) (by kernel_rfl) (by kernel_rfl) (by kernel_rfl) (fun _ _ _ h => h) XhS.out (Or.inl ⟨by rfl, ?_⟩) ?_
        rotate_left
        · intro Wq hWq
          obtain ⟨x0, x1, _⟩ := hWq
          go_simp
          try with_reducible rfl
        try simp only [Act.put, List.getElem_toArray, List.getElem_cons_zero, List.getElem_cons_succ, List.setIfInBounds_toArray, List.set_cons_zero, List.set_cons_succ]
        refine hoist_take (i := 5) (v := ?_) rfl (by kernel_rfl) (by kernel_rfl) (by kernel_rfl) (by kernel_rfl) (fun _ _ _ h => h) XhS.out (Or.inl ⟨by rfl, ?_⟩) ?_
        rotate_left
        · intro Wq hWq
          obtain ⟨x0, x1, _⟩ := hWq
          go_simp
          try with_reducible rfl
        try simp only [Act.put, List.getElem_toArray, List.getElem_cons_zero, List.getElem_cons_succ, List.setIfInBounds_toArray, List.set_cons_zero, List.set_cons_succ]
        refine hoist_take (i := 6) (v := ?_) rfl (by kernel_rfl) (by kernel_rfl) (by kernel_rfl) (by kernel_rfl) (fun _ _ _ h => h) XhS.out (Or.inl ⟨by rfl, ?_⟩) ?_
        rotate_left
        · intro Wq hWq
          obtain ⟨x0, x1, x2, x3, x4, x5, x6, x7, x8, x9⟩ := hWq
          go_simp
          try with_reducible rfl
        try simp only [Act.put, List.getElem_toArray, List.getElem_cons_zero, List.getElem_cons_succ, List.setIfInBounds_toArray, List.set_cons_zero, List.set_cons_succ]
        refine hoist_one (i := 7) rfl (by kernel_rfl) (fun K hK => ?_)
        have XhK0 := Lib.hid hK
        clear hK
        go_wp2_with fail
        refine Xhpl.out.mono ?_
        rintro e Yf ⟨rfl, dF, gF, hF⟩
        have hsF := Xhsd.out.step hwho gF
        have hfewF := upd_few (j := who) (k := k + 1) (fun i hi => Nat.le_succ_of_le (Xhfew.out i hi)) (show (tsS dF).length ≤ k + 1 by have := Xhfew.out who hwho; omega)
        have hS2 : Yf.cell? ⟨bt, who, none⟩ = some (.pointer pt) ∧ Yf.cell? ⟨br, who, none⟩ = some (.pointer pr) ∧ Yf.cell? ⟨nb, 0, none⟩ = some (.int .i64 kd) ∧ Yf.cell? ⟨nb, 1, none⟩ = some (.int .i64 wh) ∧ Yf.cell? ⟨nb, 2, none⟩ = some (.int .i64 fr) ∧ Yf.cell? ⟨nb, 3, none⟩ = some (.int .i64 tt) ∧ Yf.cell? ⟨nb, 4, none⟩ = some (.int .i64 lv) ∧ Yf.cell? ⟨nb, 5, none⟩ = some (.slice at' tu.length ct) ∧ Yf.cell? ⟨nb, 6, none⟩ = some (.slice ac cols.length cc) ∧ Yf.cell? ⟨nb, 7, none⟩ = some (.slice ak key.length ck) := by
          obtain ⟨x0, x1, x2, x3, x4, x5, x6, x7, x8, x9⟩ := XhS.out
          have o1 : outS (S who) bt ∧ bt < Yd.heap.size := ⟨(Xhsd.out.pl.here who hwho).off_out (Xhsd.out.pl.tb who hwho).1, hlt3⟩
          have o2 : outS (S who) br ∧ br < Yd.heap.size := ⟨(Xhsd.out.pl.here who hwho).off_out (Xhsd.out.pl.tb who hwho).2, hlt4⟩
          have o3 : outS (S who) nb ∧ nb < Yd.heap.size := ⟨(Xhsd.out.pl.here who hwho).off_out (Xhnbs.out who hwho), hlt5⟩
          exact ⟨gF.keep.cell x0 o1, gF.keep.cell x1 o2, gF.keep.cell x2 o3, gF.keep.cell x3 o3, gF.keep.cell x4 o3, gF.keep.cell x5 o3, gF.keep.cell x6 o3, gF.keep.cell x7 o3, gF.keep.cell x8 o3, gF.keep.cell x9 o3⟩
        clear gF hF
        have XhsF := Lib.hid hsF
        have XhfewF := Lib.hid hfewF
        have XhS2 := Lib.hid hS2
        clear hsF hfewF hS2
        go_wp2_with fail
        refine XhK0.out _ _ (fun _ => XhS2.out) ?_
        refine hoist_one (i := 8) rfl (by kernel_rfl) (fun K hK => ?_)
        have XhK1 := Lib.hid hK
        clear hK
        go_wp2_with fail
        refine XhK1.out _ _ (fun _ => XhS2.out) ?_
        refine hoist_done (by kernel_rfl) ?_
        go_wp2_with fail
        go_roundw
        case rel => exact ⟨k + 1, _, by omega, by go_num, XhsF.out, XhfewF.out⟩
        case measure => simp [intOf]; omega
    · obtain rfl : k = ss.length := by omega
      clear hlt
      go_wp2_with fail
      go_loopw [17] (fun i wq => ∃ (q : Nat) (S : Nat → Option SlotD), q ≤ 3 ∧ i = .int .i64 (q : Int) ∧ PlaySt w bt br S wq) (fun i _ => 3 - (intOf i).toNat)
      case atStart => exact ⟨0, S, by omega, rfl, hs⟩
      case round =>
        clear hs hfew
        obtain ⟨q, S, hq, rfl, hs⟩ := hrel
        by_cases hlt : q < 3
        · have hq0 : (0 : Int) ≤ q := by omega
          have hq1' : (q : Int) < 3 := by omega
          obtain ⟨Wd, hWd⟩ : ∃ Wd, wr.drew = Wd := ⟨_, rfl⟩
          have kd0 : Keep (fun _ => True) wr Wd := by rw [← hWd]; exact Keep.drew _ _
          have hsd := hs.stay kd0 (fun _ _ => trivial)
          obtain ⟨pt, hpt, -⟩ := tV_ptr (S q)
          obtain ⟨pr, hpr, -⟩ := rV_ptr (S q)
          have ct1 := hsd.ct.cell hlt
          have cr1 := hsd.cr.cell hlt
          rw [hpt] at ct1
          rw [hpr] at cr1
          have hS := And.intro ct1 cr1
          have lt1 := hsd.ct.lt
          have lt2 := hsd.cr.lt
          have hA := hsd.pl.here q hlt
          obtain ⟨d, hd⟩ : ∃ d, S q = d := ⟨_, rfl⟩
          have htb := hsd.pl.tb q hlt
          rw [hd] at hA hpt hpr htb
          obtain ⟨n, hn⟩ : ∃ n : Int, ((tsS d).length : Int) = n := ⟨_, rfl⟩
          have hl1 := slotLen hA
          have hl2 := slotRefLen hA
          have hall := slotAll (d := d) (w := Wd) 0 n
          rw [hpt, hn] at hl1
          rw [hpr, hn] at hl2
          rw [hpt] at hall
          have ho1 : outS d bt ∧ outS d br := ⟨hA.off_out htb.1, hA.off_out htb.2⟩
          clear kd0 ct1 cr1 hs htb
          have Xhsd := Lib.hid hsd
          have XhA := Lib.hid hA
          have Xhd := Lib.hid hd
          have Xhl1 := Lib.hid hl1
          have Xhl2 := Lib.hid hl2
          have Xhall := Lib.hid hall
          have XhWd := Lib.hid hWd
          have XhS := Lib.hid hS
          have Xhpt := Lib.hid hpt
          have Xhpr := Lib.hid hpr
          have Xhn := Lib.hid hn
          have Xho1 := Lib.hid ho1
          clear hsd hA hd hl1 hl2 hall hWd hS hpt hpr hn ho1
          go_wp2_with fail
          refine region_hoist rfl (fun W => W.cell? ⟨bt, q, none⟩ = some (.pointer pt) ∧ W.cell? ⟨br, q, none⟩ = some (.pointer pr)) [] ?_
          rw [XhWd.out]
          refine hoist_take (i := 0) (v := ?_) rfl (by kernel_rfl) (by kernel_rfl) (by kernel_rfl) (by kernel_rfl) (fun _ _ _ h => h) XhS.out (Or.inl ⟨by rfl, ?_⟩) ?_
          rotate_left
          · intro Wq hWq
            obtain ⟨x0, x1⟩ := hWq
            go_simp
            try with_reducible rfl
          try simp only [Act.put, List.getElem_toArray, List.getElem_cons_zero, List.getElem_cons_succ, List.setIfInBounds_toArray, List.set_cons_zero, List.set_cons_succ]
          refine hoist_take (i := 1) (v := ?_) rfl (by kernel_rfl) (by kernel_rfl) (by kernel_rfl) (by kernel_rfl) (fun _ _ _ h => h) XhS.out (Or.inl ⟨by rfl, ?_⟩) ?_
          rotate_left
          · intro Wq hWq
            obtain ⟨x0, x1⟩ := hWq
            go_simp
            try with_reducible rfl
          try simp only [Act.put, List.getElem_toArray, List.getElem_cons_zero, List.getElem_cons_succ, List.setIfInBounds_toArray, List.set_cons_zero, List.set_cons_succ]
          refine hoist_take (i := 2) (v := ?_) rfl (by kernel_rfl) (by kernel_rfl) (by kernel_rfl) (by kernel_rfl) (fun _ _ _ h => h) XhS.out (Or.inl ⟨by rfl, ?_⟩) ?_
          rotate_left
          · intro Wq hWq
            obtain ⟨x0, x1⟩ := hWq
            go_simp
            try with_reducible rfl
          try simp only [Act.put, List.getElem_toArray, List.getElem_cons_zero, List.getElem_cons_succ, List.setIfInBounds_toArray, List.set_cons_zero, List.set_cons_succ]
          refine hoist_take (i := 4) (v := ?_) rfl (by kernel_rfl) (by kernel_rfl) (by kernel_rfl) (by kernel_rfl) (fun _ _ _ h => h) XhS.out (Or.inl ⟨by rfl, ?_⟩) ?_
          rotate_left
          · intro Wq hWq
            obtain ⟨x0, x1⟩ := hWq
            go_simp
            try with_reducible rfl
          try simp only [Act.put, List.getElem_toArray, List.getElem_cons_zero, List.getElem_cons_succ, List.setIfInBounds_toArray, List.set_cons_zero, List.set_cons_succ]
          refine hoist_take (i := 5) (v := ?_) rfl (by kernel_rfl) (by kernel_rfl) (by kernel_rfl) (by kernel_rfl) (fun _ _ _ h => h) XhS.out (Or.inl ⟨by rfl, ?_⟩) ?_
          rotate_left
          · intro Wq hWq
            obtain ⟨x0, x1⟩ := hWq
            go_simp
            try with_reducible rfl
          try simp only [Act.put, List.getElem_toArray, List.getElem_cons_zero, List.getElem_cons_succ, List.setIfInBounds_toArray, List.set_cons_zero, List.set_cons_succ]
          refine hoist_take (i := 6) (v := ?_) rfl (by kernel_rfl) (by kernel_rfl) (by kernel_rfl) (by kernel_rfl) (fun _ _ _ h => h) XhS.out (Or.inl ⟨by rfl, ?_⟩) ?_
          rotate_left
          · intro Wq hWq
            obtain ⟨x0, x1⟩ := hWq
            go_simp
            try with_reducible rfl
          try simp only [Act.put, List.getElem_toArray, List.getElem_cons_zero, List.getElem_cons_succ, List.setIfInBounds_toArray, List.set_cons_zero, List.set_cons_succ]
          refine hoist_one (i := 3) rfl (by kernel_rfl) (fun K hK => ?_)
          have XhK3 := Lib.hid hK
          clear hK
          go_wp2_with fail
          refine Xhl1.out.mono ?_
          rintro e w1 ⟨rfl, hw1⟩
          have hw1 := hw1.symm
          subst hw1
          go_wp2_with fail
          refine XhK3.out _ _ (fun _ => XhS.out) ?_
          refine hoist_one (i := 7) rfl (by kernel_rfl) (fun K hK => ?_)
          have XhK7 := Lib.hid hK
          clear hK
          go_wp2_with fail
          refine Xhl2.out.mono ?_
          rintro e w1 ⟨rfl, hw1⟩
          have hw1 := hw1.symm
          subst hw1
          go_wp2_with fail
          refine XhK7.out _ _ (fun _ => XhS.out) ?_
          refine hoist_take (i := 8) (v := ?_) rfl (by kernel_rfl) (by kernel_rfl) (by kernel_rfl) (by kernel_rfl) (fun _ _ _ h => h) XhS.out (Or.inl ⟨by rfl, ?_⟩) ?_
          rotate_left
          · intro Wq hWq
            obtain ⟨x0, x1⟩ := hWq
            go_simp
            try with_reducible rfl
          try simp only [Act.put, List.getElem_toArray, List.getElem_cons_zero, List.getElem_cons_succ, List.setIfInBounds_toArray, List.set_cons_zero, List.set_cons_succ]
          refine hoist_take (i := 9) (v := ?_) rfl (by kernel_rfl) (by kernel_rfl) (by kernel_rfl) (by kernel_rfl) (fun _ _ _ h => h) XhS.out (Or.inl ⟨by rfl, ?_⟩) ?_
          rotate_left
          · intro Wq hWq
            obtain ⟨x0, x1⟩ := hWq
            go_simp
            try with_reducible rfl
          try simp only [Act.put, List.getElem_toArray, List.getElem_cons_zero, List.getElem_cons_succ, List.setIfInBounds_toArray, List.set_cons_zero, List.set_cons_succ]
          refine hoist_take (i := 10) (v := ?_) rfl (by kernel_rfl) (by kernel_rfl) (by kernel_rfl) (by kernel_rfl) (fun _ _ _ h => h) XhS.out (Or.inl ⟨by kernel_rfl, ?_⟩) ?_
          rotate_left
          · intro Wq hWq
            obtain ⟨x0, x1⟩ := hWq
            go_simp
            try simp only [bne_self_eq_false]
            try with_reducible rfl
          try simp only [Act.put, List.getElem_toArray, List.getElem_cons_zero, List.getElem_cons_succ, List.setIfInBounds_toArray, List.set_cons_zero, List.set_cons_succ]
          refine hoist_take (i := 11) (v := ?_) rfl (by kernel_rfl) (by kernel_rfl) (by kernel_rfl) (by kernel_rfl) (fun _ _ _ h => h) XhS.out (Or.inl ⟨by kernel_rfl, ?_⟩) ?_
          rotate_left
          · intro Wq hWq
            obtain ⟨x0, x1⟩ := hWq
            go_simp
            try simp only [bne_self_eq_false]
            try with_reducible rfl
          try simp only [Act.put, List.getElem_toArray, List.getElem_cons_zero, List.getElem_cons_succ, List.setIfInBounds_toArray, List.set_cons_zero, List.set_cons_succ]
          refine hoist_take (i := 12) (v := ?_) rfl (by kernel_rfl) (by kernel_rfl) (by kernel_rfl) (by kernel_rfl) (fun _ _ _ h => h) XhS.out (Or.inl ⟨by kernel_rfl, ?_⟩) ?_
          rotate_left
          · intro Wq hWq
            obtain ⟨x0, x1⟩ := hWq
            go_simp
            try simp only [bne_self_eq_false]
            try with_reducible rfl
          try simp only [Act.put, List.getElem_toArray, List.getElem_cons_zero, List.getElem_cons_succ, List.setIfInBounds_toArray, List.set_cons_zero, List.set_cons_succ]
          refine hoist_take (i := 13) (v := ?_) rfl (by kernel_rfl) (by kernel_rfl) (by kernel_rfl) (by kernel_rfl) (fun _ _ _ h => h) XhS.out (Or.inl ⟨by kernel_rfl, ?_⟩) ?_
          rotate_left
          · intro Wq hWq
            obtain ⟨x0, x1⟩ := hWq
            go_simp
            try simp only [bne_self_eq_false]
            try with_reducible rfl
          try simp only [Act.put, List.getElem_toArray, List.getElem_cons_zero, List.getElem_cons_succ, List.setIfInBounds_toArray, List.set_cons_zero, List.set_cons_succ]
          refine hoist_take (i := 14) (v := ?_) rfl (by kernel_rfl) (by kernel_rfl) (by kernel_rfl) (by kernel_rfl) (fun _ _ _ h => h) XhS.out (Or.inl ⟨by kernel_rfl, ?_⟩) ?_
          rotate_left
          · intro Wq hWq
            obtain ⟨x0, x1⟩ := hWq
            go_simp
            try simp only [bne_self_eq_false]
            try with_reducible rfl
          try simp only [Act.put, List.getElem_toArray, List.getElem_cons_zero, List.getElem_cons_succ, List.setIfInBounds_toArray, List.set_cons_zero, List.set_cons_succ]
          refine hoist_take (i := 15) (v := ?_) rfl (by kernel_rfl) (by kernel_rfl) (by kernel_rfl) (by kernel_rfl) (fun _ _ _ h => h) XhS.out (Or.inl ⟨by kernel_rfl, ?_⟩) ?_
          rotate_left
          · intro Wq hWq
            obtain ⟨x0, x1⟩ := hWq
            go_simp
            try simp only [bne_self_eq_false]
            try with_reducible rfl
          try simp only [Act.put, List.getElem_toArray, List.getElem_cons_zero, List.getElem_cons_succ, List.setIfInBounds_toArray, List.set_cons_zero, List.set_cons_succ]
          refine hoist_take (i := 18) (v := ?_) rfl (by kernel_rfl) (by kernel_rfl) (by kernel_rfl) (by kernel_rfl) (fun _ _ _ h => h) XhS.out (Or.inl ⟨by kernel_rfl, ?_⟩) ?_
          rotate_left
          · intro Wq hWq
            obtain ⟨x0, x1⟩ := hWq
            go_simp
            try simp only [bne_self_eq_false]
            try with_reducible rfl
          try simp only [Act.put, List.getElem_toArray, List.getElem_cons_zero, List.getElem_cons_succ, List.setIfInBounds_toArray, List.set_cons_zero, List.set_cons_succ]
          refine hoist_take (i := 19) (v := ?_) rfl (by kernel_rfl) (by kernel_rfl) (by kernel_rfl) (by kernel_rfl) (fun _ _ _ h => h) XhS.out (Or.inl ⟨by kernel_rfl, ?_⟩) ?_
          rotate_left
          · intro Wq hWq
            obtain ⟨x0, x1⟩ := hWq
            go_simp
            try simp only [bne_self_eq_false]
            try with_reducible rfl
          try simp only [Act.put, List.getElem_toArray, List.getElem_cons_zero, List.getElem_cons_succ, List.setIfInBounds_toArray, List.set_cons_zero, List.set_cons_succ]
          refine hoist_take (i := 20) (v := ?_) rfl (by kernel_rfl) (by kernel_rfl) (by kernel_rfl) (by kernel_rfl) (fun _ _ _ h => h) XhS.out (Or.inl ⟨by kernel_rfl, ?_⟩) ?_
          rotate_left
          · intro Wq hWq
            obtain ⟨x0, x1⟩ := hWq
            go_simp
            try simp only [bne_self_eq_false]
            try with_reducible rfl
          try simp only [Act.put, List.getElem_toArray, List.getElem_cons_zero, List.getElem_cons_succ, List.setIfInBounds_toArray, List.set_cons_zero, List.set_cons_succ]
          refine hoist_take (i := 21) (v := ?_) rfl (by kernel_rfl) (by kernel_rfl) (by kernel_rfl) (by kernel_rfl) (fun _ _ _ h => h) XhS.out (Or.inl ⟨by kernel_rfl, ?_⟩) ?_
          rotate_left
          · intro Wq hWq
            obtain ⟨x0, x1⟩ := hWq
            go_simp
            try simp only [bne_self_eq_false]
            try with_reducible rfl
          try simp only [Act.put, List.getElem_toArray, List.getElem_cons_zero, List.getElem_cons_succ, List.setIfInBounds_toArray, List.set_cons_zero, List.set_cons_succ]
          refine hoist_take (i := 22) (v := ?_) rfl (by kernel_rfl) (by kernel_rfl) (by kernel_rfl) (by kernel_rfl) (fun _ _ _ h => h) XhS.out (Or.inl ⟨by kernel_rfl, ?_⟩) ?_
          rotate_left
          · intro Wq hWq
            obtain ⟨x0, x1⟩ := hWq
            go_simp
            try simp only [bne_self_eq_false]
            try with_reducible rfl
          try simp only [Act.put, List.getElem_toArray, List.getElem_cons_zero, List.getElem_cons_succ, List.setIfInBounds_toArray, List.set_cons_zero, List.set_cons_succ]
          refine hoist_take (i := 23) (v := ?_) rfl (by kernel_rfl) (by kernel_rfl) (by kernel_rfl) (by kernel_rfl) (fun _ _ _ h => h) XhS.out (Or.inl ⟨by kernel_rfl, ?_⟩) ?_
          rotate_left
          · intro Wq hWq
            obtain ⟨x0, x1⟩ := hWq
            go_simp
            try simp only [bne_self_eq_false]
            try with_reducible rfl
          try simp only [Act.put, List.getElem_toArray, List.getElem_cons_zero, List.getElem_cons_succ, List.setIfInBounds_toArray, List.set_cons_zero, List.set_cons_succ]
          refine hoist_take (i := 24) (v := ?_) rfl (by kernel_rfl) (by kernel_rfl) (by kernel_rfl) (by kernel_rfl) (fun _ _ _ h => h) XhS.out (Or.inl ⟨by kernel_rfl, ?_⟩) ?_
          rotate_left
          · intro Wq hWq
            obtain ⟨x0, x1⟩ := hWq
            go_simp
            try simp only [bne_self_eq_false]
            try with_reducible rfl
          try simp only [Act.put, List.getElem_toArray, List.getElem_cons_zero, List.getElem_cons_succ, List.setIfInBounds_toArray, List.set_cons_zero, List.set_cons_succ]
          refine hoist_take (i := 25) (v := ?_) rfl (by kernel_rfl) (by kernel_rfl) (by kernel_rfl) (by kernel_rfl) (fun _ _ _ h => h) XhS.out (Or.inl ⟨by kernel_rfl, ?_⟩) ?_
          rotate_left
          · intro Wq hWq
            obtain ⟨x0, x1⟩ := hWq
            go_simp
            try simp only [bne_self_eq_false]
            try with_reducible rfl
          try simp only [Act.put, List.getElem_toArray, List.getElem_cons_zero, List.getElem_cons_succ, List.setIfInBounds_toArray, List.set_cons_zero, List.set_cons_succ]
          refine hoist_take (i := 26) (v := ?_) rfl (by kernel_rfl) (by kernel_rfl) (by kernel_rfl) (by kernel_rfl) (fun _ _ _ h => h) XhS.out (Or.inl ⟨by kernel_rfl, ?_⟩) ?_
          rotate_left
          · intro Wq hWq
            obtain ⟨x0, x1⟩ := hWq
            go_simp
            try simp only [bne_self_eq_false]
            try with_reducible rfl
          try simp only [Act.put, List.getElem_toArray, List.getElem_cons_zero, List.getElem_cons_succ, List.setIfInBounds_toArray, List.set_cons_zero, List.set_cons_succ]
          refine hoist_one (i := 16) rfl (by kernel_rfl) (fun K hK => ?_)
          have XhK16 := Lib.hid hK
          clear hK
          go_wp2_with fail
          refine Xhl2.out.mono ?_
          rintro e w1 ⟨rfl, hw1⟩
          have hw1 := hw1.symm
          subst hw1
          go_wp2_with fail
          refine XhK16.out _ _ (fun _ => XhS.out) ?_
          refine hoist_one (i := 17) rfl (by kernel_rfl) (fun K hK => ?_)
          have XhK17 := Lib.hid hK
          clear hK
          go_wp2_with fail
          refine Xhall.out.mono ?_
          rintro e Z1 ⟨gf, lb, rfl, k1, hit⟩
          have z1 := k1.size
          have hA1 := XhA.out.keep k1 (fun _ _ _ => trivial)
          have hS1 : Z1.cell? ⟨bt, q, none⟩ = some (.pointer pt) ∧ Z1.cell? ⟨br, q, none⟩ = some (.pointer pr) := ⟨k1.cell XhS.out.1 trivial, k1.cell XhS.out.2 trivial⟩
          have hl3 := slotRefLen hA1
          have hra := slotRefAll hA1 0 n
          rw [Xhpr.out, Xhn.out] at hl3
          rw [Xhpr.out] at hra
          have hsd1 := Xhsd.out.stay k1 (fun _ _ => trivial)
          clear k1
          have XhA1 := Lib.hid hA1
          have XhS1 := Lib.hid hS1
          have Xhl3 := Lib.hid hl3
          have Xhra := Lib.hid hra
          have Xhit := Lib.hid hit
          have Xhsd1 := Lib.hid hsd1
          clear hA1 hS1 hl3 hra hit hsd1
          go_wp2_with fail
          refine XhK17.out _ _ (fun _ => XhS1.out) ?_
          refine hoist_one (i := 27) rfl (by kernel_rfl) (fun K hK => ?_)
          have XhK27 := Lib.hid hK
          clear hK
          go_wp2_with fail
          refine Xhl3.out.mono ?_
          rintro e w1 ⟨rfl, hw1⟩
          have hw1 := hw1.symm
          subst hw1
          go_wp2_with fail
          refine XhK27.out _ _ (fun _ => XhS1.out) ?_
          refine hoist_one (i := 28) rfl (by kernel_rfl) (fun K hK => ?_)
          have XhK28 := Lib.hid hK
          clear hK
          go_wp2_with fail
          refine Xhra.out.mono ?_
          rintro e Z2 ⟨vw, rfl, k2, hpv⟩
          obtain ⟨aw, cw, hvw⟩ := own_form hpv.1
          subst hvw
          have z2 := k2.size
          have hA2 := XhA1.out.keep k2 (fun b hb _ => hb)
          have hit2 := SlotIt.stay Xhit.out k2 (fun b _ hb => hb)
          have hS2 : Z2.cell? ⟨bt, q, none⟩ = some (.pointer pt) ∧ Z2.cell? ⟨br, q, none⟩ = some (.pointer pr) := ⟨k2.cell XhS1.out.1 (by simp only; omega), k2.cell XhS1.out.2 (by simp only; omega)⟩
          have hgo := slotGoes hA2 0 hit2 (fun b hb => XhA.out.fresh (by omega)) _ hpv (fun b hb => XhA.out.fresh (by have := (World.ownsRow.lt hpv.1 b hb).1; omega))
          rw [Xhpr.out] at hgo
          have hsd2 := Xhsd1.out.stay k2 (fun _ hb => hb)
          clear k2 hit2 hpv hA2
          have XhS2 := Lib.hid hS2
          have Xhgo := Lib.hid hgo
          have Xhsd2 := Lib.hid hsd2
          clear hS2 hgo hsd2
          go_wp2_with fail
          refine XhK28.out _ _ (fun _ => XhS2.out) ?_
          refine hoist_one (i := 29) rfl (by kernel_rfl) (fun K hK => ?_)
          have XhK29 := Lib.hid hK
          clear hK
          go_wp2_with fail
          refine Xhgo.out.mono ?_
          rintro e Z3 ⟨rfl, dF, gF, _⟩
          have hS3 : Z3.cell? ⟨bt, q, none⟩ = some (.pointer pt) ∧ Z3.cell? ⟨br, q, none⟩ = some (.pointer pr) := ⟨gF.keep.cell XhS2.out.1 ⟨Xho1.out.1, by simp only; omega⟩, gF.keep.cell XhS2.out.2 ⟨Xho1.out.2, by simp only; omega⟩⟩
          rw [← Xhd.out] at gF
          have hsF := Xhsd2.out.step hlt gF
          clear gF
          have XhS3 := Lib.hid hS3
          have XhsF := Lib.hid hsF
          clear hS3 hsF
          go_wp2_with fail
          refine XhK29.out _ _ (fun _ => XhS3.out) ?_
          refine hoist_take (i := 30) (v := ?_) rfl (by kernel_rfl) (by kernel_rfl) (by kernel_rfl) (by kernel_rfl) (fun _ _ _ h => h) XhS3.out (Or.inl ⟨by kernel_rfl, ?_⟩) ?_
          rotate_left
          · intro Wq hWq
            obtain ⟨x0, x1⟩ := hWq
            go_simp
            try simp only [bne_self_eq_false]
            try with_reducible rfl
          try simp only [Act.put, List.getElem_toArray, List.getElem_cons_zero, List.getElem_cons_succ, List.setIfInBounds_toArray, List.set_cons_zero, List.set_cons_succ]
          refine hoist_take (i := 31) (v := ?_) rfl (by kernel_rfl) (by kernel_rfl) (by kernel_rfl) (by kernel_rfl) (fun _ _ _ h => h) XhS3.out (Or.inl ⟨by kernel_rfl, ?_⟩) ?_
          rotate_left
          · intro Wq hWq
            obtain ⟨x0, x1⟩ := hWq
            go_simp
            try simp only [bne_self_eq_false]
            try with_reducible rfl
          try simp only [Act.put, List.getElem_toArray, List.getElem_cons_zero, List.getElem_cons_succ, List.setIfInBounds_toArray, List.set_cons_zero, List.set_cons_succ]
          refine hoist_done (by kernel_rfl) ?_
          go_wp2_with fail
          go_roundw
          case rel => exact ⟨q + 1, _, by omega, by go_num, XhsF.out⟩
          case measure => simp [intOf]; omega
        · obtain rfl : q = 3 := by omega
          clear hlt
          have hK := hs.pl.keep
          clear hs
          have XhK := Lib.hid hK
          clear hK
          go_wp2_with fail
          refine (known4_any wr).mono ?_
          rintro e Z0 ⟨rfl, k0⟩
          go_wp2_with fail
          go_ret
          exact ⟨rfl, XhK.out.trans (k0.mono fun _ _ _ => trivial)⟩
end Go.Proofs
