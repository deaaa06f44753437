/- Layer 16 (plan): the law's own literals, sizes and rule. -/
import Derived.Test.YtichfebfcapnhaaProg
import Derived.Test.YtichfebfcapnhaaPnZToPoA
import Derived.Test.YtichfebfcapnhaaPnTToPnU
import Derived.Test.YtichfebfcapnhaaOwnToRowC
namespace Go.Proofs
open Go.RowKit Go.Ink Go.Flt
set_option linter.unusedVariables false
set_option linter.unusedSimpArgs false
attribute [local go_sem] Oper.semAt_some

def posOf (p : ByteArray) (ss : List ByteArray) : LitD := ⟨1, ⟨p, ss.map termOf⟩, ⟨false, ⟨#[]⟩⟩, ⟨false, ⟨#[]⟩⟩⟩
set_option maxRecDepth 100000 in
set_option maxHeartbeats 1000000 in
theorem pos_any (n : Nat) (p : ByteArray) (vs : Value) (ss : List ByteArray) (w : World) (hS : StrsIn n w vs ss) (hpos : ∀ s, s ∈ ss → 0 < s.size) (hn : n ≤ w.heap.size) :
    Calls Try.prog 34 #[.string p, vs] w fun e w' => ∃ va, e = .returned (litV (posOf p ss) va) ∧ w'.ownsRow w.heap.size 76 2 va ss.length (termCells (ss.map termOf)) ∧ Keep (fun b => b < w.heap.size) w w' := by
  unfold litV posOf
  simp only
  obtain ⟨a, c, rfl, hl, hcap, hel⟩ := id hS
  obtain ⟨N, hN⟩ : ∃ N, w.heap.size = N := ⟨_, rfl⟩
  have Xhel := Lib.hid hel
  have XhN := Lib.hid hN
  have Xhpos := Lib.hid hpos
  clear hel hN hpos
  go_enter Try.func34, Try.ntmps34
  go_upto_region 2 with fail
  refine wp_abs (fun W => Keep (fun b => b < w.heap.size) w W ∧ W.heap.size = w.heap.size + 1 + 1 ∧ W.heap[w.heap.size]? = some (.cells #[.int .i64 0, .string ⟨#[]⟩, .slice none 0 0, .bool false, .string ⟨#[]⟩, .bool false, .string ⟨#[]⟩] 78 (0, 0)) ∧
    W.heap[w.heap.size + 1]? = some (.cells #[.int .i64 1, .string p, .slice none 0 0, .bool false, .string ⟨#[]⟩, .bool false, .string ⟨#[]⟩] 78 (0, 0))) ⟨(Keep.alloc _ _ _).trans (Keep.alloc _ _ _), by simp, by simp only [alloc_get, World.size_alloc]; simp, by simp only [alloc_get, World.size_alloc]; simp⟩ ?_
  rintro W0 ⟨k0, z0, a1, a2⟩
  rw [XhN.out] at k0 z0 a1 a2 ⊢
  have Xk0 := Lib.hid k0
  have Xa1 := Lib.hid a1
  have Xa2 := Lib.hid a2
  clear k0 a1 a2
  go_wp2_with fail
  go_loopw [6] (fun i' wr => ∃ (k : Nat) (va : Value), k ≤ ss.length ∧ i' = .int .i64 (k : Int) ∧ Keep (fun b => b < N + 1) W0 wr ∧
    wr.heap[N + 1]? = some (.cells #[.int .i64 1, .string p, va, .bool false, .string ⟨#[]⟩, .bool false, .string ⟨#[]⟩] 78 (0, 0)) ∧
    wr.ownsRow (N + 1 + 1) 76 2 va k (termCells ((ss.take k).map termOf))) (fun i _ => ss.length - (intOf i).toNat)
  case atStart => exact ⟨0, _, by omega, rfl, Keep.refl _ _, Xa2.out, World.ownsRow_nil _ _ _ _⟩
  case round =>
    obtain ⟨k, va, hk, rfl, hK, hX1, hob⟩ := hrel
    have hsz := hK.size
    have hxl := heap_lt hX1
    have kw : Keep (fun b => b < N) w wr := Xk0.out.trans (hK.mono fun b _ h => by omega)
    obtain ⟨ava, cva, rfl⟩ := own_form hob
    by_cases hlt : k < ss.length
    · have hlt1 : (k : Int) < ss.length := by omega
      have hk0 : (0 : Int) ≤ k := by omega
      obtain ⟨x, hx⟩ : ∃ x, ss[k]? = some x := ⟨_, List.getElem?_eq_getElem hlt⟩
      obtain ⟨b4, o4, rfl, hb4, q0⟩ := Xhel.out k x hx
      have hb4N : b4 < N := by have := XhN.out; omega
      have f0 := kw.cell q0 hb4N
      simp only [Nat.mul_one] at f0
      have hb4w : b4 < wr.heap.size := by omega
      have x2 := cells_of_block hX1 2 _ rfl
      simp only [Nat.zero_add] at x2
      have ht := lawTerm_any x (Xhpos.out x (List.mem_of_getElem? hx)) wr.drew
      have htk : ss.take (k + 1) = ss.take k ++ [x] := by rw [List.take_add_one, hx]; rfl
      unfold termV at ht
      obtain ⟨tv, htv⟩ : ∃ v, (termOf x).var = v := ⟨_, rfl⟩
      have htt : (termOf x).text = x := rfl
      have htc : termCells ((ss.take (k + 1)).map termOf) = termCells ((ss.take k).map termOf) ++ [Value.bool tv, Value.string x] := by
        rw [htk, List.map_append, termCells, List.flatMap_append, ← htv]; rfl
      rw [htv, htt] at ht
      clear q0 htv htt
      have XhK := Lib.hid hK
      have XhX1 := Lib.hid hX1
      have Xhob := Lib.hid hob
      have Xkw := Lib.hid kw
      have Xht := Lib.hid ht
      have Xhtc := Lib.hid htc
      have Xhtk := Lib.hid htk
      have Xhx := Lib.hid hx
      clear hK hX1 hob kw ht htc htk hx
      go_wp2_with fail
      refine region_hoist rfl (fun W => W.cell? ⟨N + 1, 2, none⟩ = some (.slice ava k cva) ∧ W.cell? ⟨b4, o4 + k, none⟩ = some (.string x)) [12] ?_
      have XhS0 := Lib.hid (And.intro x2 f0)
      refine hoist_take (i := 0) (v := ?_) rfl (by kernel_rfl) (by kernel_rfl) (by kernel_rfl) (by kernel_rfl) (fun _ _ _ h => h) XhS0.out (Or.inl ⟨by rfl, ?_⟩) ?_
      rotate_left
      · intro Wq hWq
        obtain ⟨s0, s1⟩ := hWq
        go_simp
        try with_reducible rfl
      try simp only [Act.put, List.getElem_toArray, List.getElem_cons_zero, List.getElem_cons_succ, List.setIfInBounds_toArray, List.set_cons_zero, List.set_cons_succ]
      refine hoist_take (i := 1) (v := ?_) rfl (by kernel_rfl) (by kernel_rfl) (by kernel_rfl) (by kernel_rfl) (fun _ _ _ h => h) XhS0.out (Or.inl ⟨by rfl, ?_⟩) ?_
      rotate_left
      · intro Wq hWq
        obtain ⟨s0, s1⟩ := hWq
        go_simp
        try with_reducible rfl
      try simp only [Act.put, List.getElem_toArray, List.getElem_cons_zero, List.getElem_cons_succ, List.setIfInBounds_toArray, List.set_cons_zero, List.set_cons_succ]
      refine hoist_take (i := 2) (v := ?_) rfl (by kernel_rfl) (by kernel_rfl) (by kernel_rfl) (by kernel_rfl) (fun _ _ _ h => h) XhS0.out (Or.inl ⟨by rfl, ?_⟩) ?_
      rotate_left
      · intro Wq hWq
        obtain ⟨s0, s1⟩ := hWq
        go_simp
        try with_reducible rfl
      try simp only [Act.put, List.getElem_toArray, List.getElem_cons_zero, List.getElem_cons_succ, List.setIfInBounds_toArray, List.set_cons_zero, List.set_cons_succ]
      refine hoist_take (i := 3) (v := ?_) rfl (by kernel_rfl) (by kernel_rfl) (by kernel_rfl) (by kernel_rfl) (fun _ _ _ h => h) XhS0.out (Or.inl ⟨by rfl, ?_⟩) ?_
      rotate_left
      · intro Wq hWq
        obtain ⟨s0, s1⟩ := hWq
        go_simp
        try with_reducible rfl
      try simp only [Act.put, List.getElem_toArray, List.getElem_cons_zero, List.getElem_cons_succ, List.setIfInBounds_toArray, List.set_cons_zero, List.set_cons_succ]
      refine hoist_take (i := 4) (v := ?_) rfl (by kernel_rfl) (by kernel_rfl) (by kernel_rfl) (by kernel_rfl) (fun _ _ _ h => h) XhS0.out (Or.inl ⟨by rfl, ?_⟩) ?_
      rotate_left
      · intro Wq hWq
        obtain ⟨s0, s1⟩ := hWq
        go_simp
        try with_reducible rfl
      try simp only [Act.put, List.getElem_toArray, List.getElem_cons_zero, List.getElem_cons_succ, List.setIfInBounds_toArray, List.set_cons_zero, List.set_cons_succ]
      refine hoist_take (i := 5) (v := ?_) rfl (by kernel_rfl) (by kernel_rfl) (by kernel_rfl) (by kernel_rfl) (fun _ _ _ h => h) XhS0.out (Or.inl ⟨by rfl, ?_⟩) ?_
      rotate_left
      · intro Wq hWq
        obtain ⟨s0, s1⟩ := hWq
        go_simp
        try with_reducible rfl
      try simp only [Act.put, List.getElem_toArray, List.getElem_cons_zero, List.getElem_cons_succ, List.setIfInBounds_toArray, List.set_cons_zero, List.set_cons_succ]
      refine hoist_take (i := 6) (v := ?_) rfl (by kernel_rfl) (by kernel_rfl) (by kernel_rfl) (by kernel_rfl) (fun _ _ _ h => h) XhS0.out (Or.inl ⟨by rfl, ?_⟩) ?_
      rotate_left
      · intro Wq hWq
        obtain ⟨s0, s1⟩ := hWq
        go_simp
        try with_reducible rfl
      try simp only [Act.put, List.getElem_toArray, List.getElem_cons_zero, List.getElem_cons_succ, List.setIfInBounds_toArray, List.set_cons_zero, List.set_cons_succ]
      refine hoist_one (i := 7) rfl (by kernel_rfl) (fun KK hKK => ?_)
      have XhR0 := Lib.hid hKK
      clear hKK
      simp only [List.getElem_toArray, List.getElem_cons_zero, List.getElem_cons_succ, Act.put, List.setIfInBounds_toArray, List.set_cons_zero, List.set_cons_succ, Nat.zero_add]
      go_wp2_with fail
      refine Xht.out.mono ?_
      rintro e W1 ⟨rfl, k1⟩
      have n0 := k1.cell (show wr.drew.cell? ⟨N + 1, 2, none⟩ = _ from x2) trivial
      have n1 := k1.cell (show wr.drew.cell? ⟨b4, o4 + k, none⟩ = _ from f0) trivial
      have hz1 := k1.size
      simp only [World.size_drew] at hz1
      have k01 : Keep (fun _ => True) wr W1 := (Keep.drew _ _).trans k1
      have ob1 := own_kept Xhob.out k01 (fun _ _ => trivial)
      obtain ⟨v', W3, hr3, ho3, hk3, g, cap, hv3, hg3, hl3'⟩ := app1 (P := Try.prog) el_terms 23 ob1 [.bool tv, .string x] rfl (by simp [Value.oneCell']) (by omega) (by omega)
      subst hv3
      rw [← Xhtc.out] at ho3
      have hX3 := hk3.heap (k01.heap XhX1.out trivial) (own_not ob1 (by omega))
      have d1 := cells_of_block hX3 2 _ rfl
      have d1f := box_free hX3 2
      simp only [Nat.zero_add] at d1
      have hl4 := heap_lt hX3
      obtain ⟨W4, hW4⟩ : ∃ W4, W3.setCell ⟨N + 1, 2, none⟩ (.slice (some ⟨g, 0, none⟩) (k + 1) cap) = W4 := ⟨_, rfl⟩
      have kS : Keep (fun b => b ≠ N + 1) W3 W4 := by rw [← hW4]; exact Keep.setCell _ _ _ (by simp)
      have hX4 := set_at 2 (.slice (some ⟨g, 0, none⟩) (k + 1) cap) hX3
      rw [hW4] at hX4
      simp only [List.setIfInBounds_toArray, List.set_cons_succ, List.set_cons_zero] at hX4
      have on4 := own_kept ho3 kS (fun b hb => by have := (World.ownsRow.lt ho3 b hb).1; omega)
      have hK4 : Keep (fun b => b < N + 1) W0 W4 := ((XhK.out.trans (k01.mono fun _ _ _ => trivial)).trans (hk3.mono fun b hb h e => by have := (World.ownsRow.lt ob1 b e.symm).1; omega)).trans (kS.mono fun b _ h => by omega)
      have m0 := old_cell n0 (.cells #[.bool tv, .string x] 76)
      have m1 := old_cell n1 (.cells #[.bool tv, .string x] 76)
      have n1' := hk3.cell n1 (fun e => by have := (World.ownsRow.lt ob1 b4 e.symm).1; omega)
      clear hX3 ho3 hk3 kS ob1 k01 k1
      have XhK4 := Lib.hid hK4
      have XhX4 := Lib.hid hX4
      have Xon4 := Lib.hid on4
      have Xhr3 := Lib.hid hr3
      have XhW4 := Lib.hid hW4
      have Xm0 := Lib.hid m0
      have Xm1 := Lib.hid m1
      clear hK4 hX4 on4 hr3 hW4 m0 m1
      go_wp2_with fail
      refine XhR0.out _ _ (fun _ => ⟨n0, n1⟩) ?_
      refine hoist_one (i := 8) rfl (by kernel_rfl) (fun KK hKK => ?_)
      have XhR1 := Lib.hid hKK
      clear hKK
      go_wp2_with fail
      refine XhR1.out _ _ (fun _ => ⟨Xm0.out, Xm1.out⟩) ?_
      refine hoist_one (i := 9) rfl (by kernel_rfl) (fun KK hKK => ?_)
      have XhR2 := Lib.hid hKK
      clear hKK
      simp only [List.getElem_toArray, List.getElem_cons_zero, List.getElem_cons_succ, Act.put, List.setIfInBounds_toArray, List.set_cons_zero, List.set_cons_succ]
      refine go_app (v := .slice ava k cva) (u := .slice (some ⟨W1.heap.size, 0, none⟩) 1 1) (v' := .slice (some ⟨g, 0, none⟩) (k + 1) cap) (w' := W3) rfl (.tmp 18) (.tmp 24) 23 rfl rfl rfl Xhr3.out ?_
      go_wp2_with fail
      refine XhR2.out _ _ (fun _ => ⟨d1, n1'⟩) ?_
      refine hoist_one (i := 10) rfl (by kernel_rfl) (fun KK hKK => ?_)
      have XhR3 := Lib.hid hKK
      clear hKK
      go_wp2_with fail
      refine XhR3.out _ _ (fun _ => ⟨d1, n1'⟩) ?_
      refine hoist_one (i := 11) rfl (by kernel_rfl) (fun KK hKK => ?_)
      have XhR4 := Lib.hid hKK
      clear hKK
      go_wp2_with fail
      refine XhR4.out _ _ (fun _ => ⟨d1, n1'⟩) ?_
      refine hoist_one (i := 12) rfl (by kernel_rfl) (fun KK hKK => ?_)
      have XhR5 := Lib.hid hKK
      clear hKK
      go_wp2_with fail
      refine XhR5.out _ _ (fun h => by simp at h) ?_
      refine hoist_done (by kernel_rfl) ?_
      clear XhS0 XhR0 XhR1 XhR2 XhR3 XhR4 XhR5 n0 n1 d1 d1f n1'
      rw [XhW4.out]
      go_wp2_with fail
      go_roundw
      case rel => exact ⟨k + 1, _, by omega, by go_num, XhK4.out, XhX4.out, Xon4.out⟩
      case measure => simp [intOf]; omega
    · obtain rfl : k = ss.length := by omega
      rw [List.take_length] at hob
      have hNw : N < wr.heap.size := by omega
      have hR := hK.heap Xa1.out (show N < N + 1 by omega)
      have x0 := cells_of_block hX1 0 _ rfl
      have x1 := cells_of_block hX1 1 _ rfl
      have x2 := cells_of_block hX1 2 _ rfl
      have x3 := cells_of_block hX1 3 _ rfl
      have x4 := cells_of_block hX1 4 _ rfl
      have x5 := cells_of_block hX1 5 _ rfl
      have x6 := cells_of_block hX1 6 _ rfl
      have e0 := box_free hR 0
      have e1 := box_free hR 1
      have e2 := box_free hR 2
      have e3 := box_free hR 3
      have e4 := box_free hR 4
      have e5 := box_free hR 5
      have e6 := box_free hR 6
      have y0 := cells_of_block hR 0 _ rfl
      have y1 := cells_of_block hR 1 _ rfl
      have y2 := cells_of_block hR 2 _ rfl
      have y3 := cells_of_block hR 3 _ rfl
      have y4 := cells_of_block hR 4 _ rfl
      have y5 := cells_of_block hR 5 _ rfl
      have y6 := cells_of_block hR 6 _ rfl
      simp only [Nat.zero_add] at x0 x1 x2 x3 x4 x5 x6 y0 y1 y2 y3 y4 y5 y6
      have hlt0 : ¬ (ss.length : Int) < ss.length := by omega
      have XhK := Lib.hid hK
      have XhX1 := Lib.hid hX1
      have Xhob := Lib.hid hob
      have Xkw := Lib.hid kw
      have XhR := Lib.hid hR
      clear hK hX1 hob kw hR
      go_wp2_with fail
      refine bodyPost_ret (v := .agg #[.int .i64 1, .string p, .slice ava ss.length cva, .bool false, .string ⟨#[]⟩, .bool false, .string ⟨#[]⟩]) (by simp [results, Try.results34, go_sem, y0, y1, y2, y3, y4, y5, y6, hNw]) rfl ?_
      have kS : Keep (fun b => b ≠ N) wr (((((((wr.setCell ⟨N, 0, none⟩ (.int .i64 1)).setCell ⟨N, 1, none⟩ (.string p)).setCell ⟨N, 2, none⟩ (.slice ava ss.length cva)).setCell ⟨N, 3, none⟩ (.bool false)).setCell ⟨N, 4, none⟩ (.string ⟨#[]⟩)).setCell ⟨N, 5, none⟩ (.bool false)).setCell ⟨N, 6, none⟩ (.string ⟨#[]⟩)) :=
        ((((((Keep.setCell _ _ _ (by simp)).trans (Keep.setCell _ _ _ (by simp))).trans (Keep.setCell _ _ _ (by simp))).trans (Keep.setCell _ _ _ (by simp))).trans (Keep.setCell _ _ _ (by simp))).trans (Keep.setCell _ _ _ (by simp))).trans (Keep.setCell _ _ _ (by simp))
      exact ⟨_, rfl, (own_kept Xhob.out kS (fun b hb => by have := (World.ownsRow.lt Xhob.out b hb).1; omega)).mono (by have := XhN.out; omega), (Xkw.out.trans (kS.mono fun b _ h => by omega)).mono fun b _ h => by have := XhN.out; omega⟩
end Go.Proofs
