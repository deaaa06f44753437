/- Layer 16 (plan): the rows behind a step, the program's. -/
import Derived.Test.YtichfebfcapnhaaProg
import Derived.Test.YtichfebfcapnhaaFltBToPnN
namespace Go.Proofs
open Go.RowKit Go.Ink Go.Flt
set_option linter.unusedVariables false
set_option linter.unusedSimpArgs false
attribute [local go_sem] Oper.semAt_some

theorem find_none {l : List SizeD} {pred : ByteArray} (h : findI (fun s : SizeD => decide (s.pred = pred)) l < 0) : findS l pred = ⟨⟨#[]⟩, 0, []⟩ := by
  have h2 := findI_any (fun s : SizeD => decide (s.pred = pred)) l
  rw [decide_eq_false (by omega)] at h2
  unfold findS
  rw [List.find?_eq_none.2 (fun s hs => by have := List.any_eq_false.1 h2.symm s hs; exact this)]
  rfl
theorem find_some {l : List SizeD} {pred : ByteArray} (h : ¬ findI (fun s : SizeD => decide (s.pred = pred)) l < 0) : ∃ k : Nat, findI (fun s : SizeD => decide (s.pred = pred)) l = (k : Int) ∧ k < l.length ∧ l[k]? = some (findS l pred) := by
  induction l with
  | nil => simp [findI] at h
  | cons s r ih =>
    have e : findI (fun s : SizeD => decide (s.pred = pred)) (s :: r) = if decide (s.pred = pred) = true then 0 else (if findI (fun s : SizeD => decide (s.pred = pred)) r < 0 then -1 else findI (fun s : SizeD => decide (s.pred = pred)) r + 1) := rfl
    rw [e] at h ⊢
    by_cases hp : decide (s.pred = pred) = true
    · rw [if_pos hp]
      refine ⟨0, rfl, by simp, ?_⟩
      unfold findS
      rw [List.find?_cons, hp]
      rfl
    · rw [if_neg hp] at h ⊢
      by_cases hr : findI (fun s : SizeD => decide (s.pred = pred)) r < 0
      · rw [if_pos hr] at h; omega
      · rw [if_neg hr]
        obtain ⟨k, h1, h2, h3⟩ := ih hr
        refine ⟨k + 1, by rw [h1]; rfl, by simp; omega, ?_⟩
        rw [List.getElem?_cons_succ, h3]
        unfold findS
        rw [Bool.not_eq_true] at hp
        rw [List.find?_cons, hp]

set_option maxRecDepth 100000 in
set_option maxHeartbeats 1000000 in
theorem behind1_any (n b7 b5 b4 b6 : Nat) (a : Nat) (ha : a ≤ 9094988921128908188) (sizes : List SizeD) (sv : Value) (pred : ByteArray) (bound : List Int) (bv : Value) (hu : usableB sizes = true) (hpos : ∀ c, c ∈ bound → 0 ≤ c) (w : World)
    (hs : SizesIn n w sv sizes) (hb : IntsIn n w bv bound) (hn : n ≤ w.heap.size)
    (c7 : w.cell? ⟨b7, 0, none⟩ = some sv) (c5 : w.cell? ⟨b5, 1, none⟩ = some (.string pred)) (c4 : w.cell? ⟨b4, 0, none⟩ = some (.float .f64 a)) (c6 : w.cell? ⟨b6, 1, none⟩ = some bv) :
    Calls Try.prog 69 #[.pointer (some ⟨b7, 0, none⟩), .pointer (some ⟨b5, 0, none⟩), .pointer (some ⟨b4, 0, none⟩), .pointer (some ⟨b6, 0, none⟩)] w
      fun e w' => e = .returned (.float .f64 (bound.foldl (thin (findS sizes pred)) (cap (fmul a (ofInt (findS sizes pred).rows))))) ∧ Keep (fun b => b < w.heap.size) w w' := by
  have l7 := World.block_lt_of_cell? w _ c7
  have l5 := World.block_lt_of_cell? w _ c5
  have l4 := World.block_lt_of_cell? w _ c4
  have l6 := World.block_lt_of_cell? w _ c6
  simp only at l7 l5 l4 l6
  obtain ⟨W0, hW0⟩ : ∃ W0, w.alloc (.cells #[.string ⟨#[]⟩, .int .i64 0, .slice none 0 0] 63) = W0 := ⟨_, rfl⟩
  have k0 : Keep (fun _ => True) w W0 := by rw [← hW0]; exact Keep.alloc _ _ _
  have z0 : W0.heap.size = w.heap.size + 1 := by rw [← hW0]; simp
  have hix := idxSizes_any (gf := 71) (bs := #[]) (lb := #[.pointer (some ⟨b5, 0, none⟩)]) (enters Try.func71 (by kernel_rfl) rfl) (fun s : SizeD => decide (s.pred = pred)) n sv sizes W0 (hs.keep (k0.mono fun _ _ _ => trivial)) (by omega)
    (fun x _ W2 hK sv2 hsv2 => samePred_any b5 x sv2 pred n W2 hsv2 (hK.cell (k0.cell c5 trivial) (show b5 < W0.heap.size by omega)))
  have hz := find_fit hu pred
  have hnone := @find_none sizes pred
  have hsome := @find_some sizes pred
  obtain ⟨z, hze⟩ : ∃ z, findS sizes pred = z := ⟨_, rfl⟩
  rw [hze] at hz hnone hsome
  rw [hze]
  obtain ⟨ix, hixe⟩ : ∃ i, findI (fun s : SizeD => decide (s.pred = pred)) sizes = i := ⟨_, rfl⟩
  rw [hixe] at hix hnone hsome
  have hmin := fun x (hx : x ≤ 9218868437227405312) w => run_min_cap #[49, 49] 49 hx w
  have hconv := fun n w => run_conv n w
  have hr := ofInt_fin hz.1 hz.2.1
  have hmul := fun w => run_fmul (a := a) (b := ofInt z.rows) (by omega) hr w
  have hm := fmul_inf (a := a) (b := ofInt z.rows) (by omega) hr
  have hmn := fun w => run_min_cap #[49, 49] 49 hm w
  obtain ⟨a7, cp7, rfl, hl7, hc7, he7⟩ := id hs
  obtain ⟨ab, cpb, rfl, hlb, hcb, heb⟩ := id hb
  have bx := new_block w (.cells #[.string ⟨#[]⟩, .int .i64 0, .slice none 0 0] 63)
  rw [hW0] at bx
  obtain ⟨X, hX⟩ : ∃ X, w.heap.size = X := ⟨_, rfl⟩
  rw [hX] at bx z0 l7 l5 l4 l6 hn
  clear hs hb
  have l7' : b7 < w.heap.size := by omega
  have l5' : b5 < w.heap.size := by omega
  have l4' : b4 < w.heap.size := by omega
  have l6' : b6 < w.heap.size := by omega
  have Xhix := Lib.hid hix
  have Xhnone := Lib.hid hnone
  have Xhsome := Lib.hid hsome
  have Xhe7 := Lib.hid he7
  have Xheb := Lib.hid heb
  have Xhze := Lib.hid hze
  have Xhixe := Lib.hid hixe
  have Xhz := Lib.hid hz
  have Xhpos := Lib.hid hpos
  have XhW0 := Lib.hid hW0
  have Xbx := Lib.hid bx
  have Xk0 := Lib.hid k0
  have XhX := Lib.hid hX
  clear hix hnone hsome he7 heb hze hixe hz hpos hW0 bx k0 hX
  go_enter Try.func69, Try.ntmps69
  go_wp2_with fail
  rw [XhW0.out, XhX.out]
  refine Xhix.out.mono ?_
  rintro e W1 ⟨rfl, k1⟩
  have hz1 := k1.size
  have kw1 : Keep (fun _ => True) w W0 := Xk0.out
  have bx1 := k1.heap Xbx.out (by omega)
  have kk : Keep (fun b => b < X) w W1 := (Xk0.out.mono fun _ _ _ => trivial).trans (k1.mono fun b hb h => by omega)
  have f7 := kk.cell c7 l7
  have f4 := kk.cell c4 l4
  have f6 := kk.cell c6 l6
  have x0 := cells_of_block bx1 0 _ rfl
  have x1 := cells_of_block bx1 1 _ rfl
  have x2 := cells_of_block bx1 2 _ rfl
  have y0 := box_free bx1 0
  have y1 := box_free bx1 1
  have y2 := box_free bx1 2
  simp only [Nat.zero_add] at x0 x1 x2
  have hXl : X < W1.heap.size := by omega
  have hb7l : b7 < W1.heap.size := by omega
  have hb4l : b4 < W1.heap.size := by omega
  have hb6l : b6 < W1.heap.size := by omega
  clear c7 c5 c4 c6 k1 kw1
  obtain ⟨s0, hs0⟩ : ∃ s0, cap (fmul a (ofInt z.rows)) = s0 := ⟨_, rfl⟩
  have hs0c : s0 ≤ 9094988921128908188 := by rw [← hs0]; exact cap_le _
  simp only [hs0] at hmn ⊢
  have fin : ∀ (W : World), True := fun _ => trivial
  clear fin hmin
  by_cases hneg : ix < 0
  · have hzn := Xhnone.out hneg
    have hge : ¬ ix ≥ 0 := by omega
    have hrow : z.rows = 0 := by rw [hzn]
    have hdist : z.dist = [] := by rw [hzn]
    rw [hrow] at hmul hmn
    have bx2 : W1.heap[X]? = some (.cells #[.string z.pred, .int .i64 z.rows, .slice none z.dist.length 0] 63 (0, 0)) := by rw [bx1, hzn]; rfl
    have hez : ∀ (k : Nat) (x : Int), z.dist[k]? = some x → ∃ b off, (none : Option Addr) = some ⟨b, off, none⟩ ∧ b < n ∧ IntE w b (off + k * 1) x := fun k x h => by rw [hdist] at h; simp at h
    clear hzn
    have Xbx1 := Lib.hid bx1
    have Xbx2 := Lib.hid bx2
    have Xkk := Lib.hid kk
    have Xhrow := Lib.hid hrow
    have Xhdist := Lib.hid hdist
    have Xhez := Lib.hid hez
    have Xhs0 := Lib.hid hs0
    clear bx1 bx2 kk hrow hdist hez hs0
    go_wp2_with fail
    refine wp_abs (fun W => Keep (fun b => b < X) w W ∧ W.heap[X]? = some (.cells #[.string z.pred, .int .i64 z.rows, .slice none z.dist.length 0] 63 (0, 0))) ⟨Xkk.out, Xbx2.out⟩ ?_
    clear x0 x1 x2 y0 y1 y2 f7 f4 f6 hXl hb7l hb4l hb6l
    rintro W2 ⟨kk2, bx3⟩
    have hz2 : X < W2.heap.size := heap_lt bx3
    have hww : w.heap.size = X := XhX.out
    have x2 := cells_of_block bx3 2 _ rfl
    simp only [Nat.zero_add] at x2
    clear hww bx3
    have Xkk2 := Lib.hid kk2
    clear kk2
    go_loopw [7, 28] (fun x7 i' wr => ∃ k : Nat, k ≤ bound.length ∧ i' = .int .i64 (k : Int) ∧ x7 = .float .f64 ((bound.take k).foldl (thin z) s0) ∧ wr = W2) (fun _ i _ => bound.length - (intOf i).toNat)
    case atStart => exact ⟨0, by omega, rfl, rfl, rfl⟩
    case round =>
      obtain ⟨k, hk, rfl, rfl, hw⟩ := hrel
      have hw := hw.symm
      subst hw
      by_cases hlt : k < bound.length
      · have hlt1 : (k : Int) < bound.length := by omega
        have hk0 : (0 : Int) ≤ k := by omega
        obtain ⟨c, hc⟩ : ∃ x, bound[k]? = some x := ⟨_, List.getElem?_eq_getElem hlt⟩
        obtain ⟨b9, o9, rfl, hb9, q0⟩ := Xheb.out k c hc
        unfold IntE at q0
        simp only [Nat.mul_one] at q0
        have f0 := Xkk2.out.cell q0 (show b9 < X by omega)
        have hb9w : b9 < W2.heap.size := by omega
        have hts := thins_snoc z s0 bound hc
        have hc0 := Xhpos.out c (List.mem_of_getElem? hc)
        have hle := thins_le Xhz.out (bound.take k) hs0c
        obtain ⟨v, hv⟩ : ∃ v, (bound.take k).foldl (thin z) s0 = v := ⟨_, rfl⟩
        rw [hv] at hle hts ⊢
        clear q0 hc hv
        by_cases hcl : c < z.dist.length
        · obtain ⟨d, hd⟩ : ∃ d, z.dist[c.toNat]? = some d := ⟨_, List.getElem?_eq_getElem (by omega)⟩
          obtain ⟨b10, o10, hzd, hb10, r0⟩ := Xhez.out c.toNat d hd
          cases hzd
        · have ht1 : thin z v c = v := by
            unfold thin
            exact if_neg (fun h => hcl h.1)
          rw [ht1] at hts
          clear ht1
          have Xhts := Lib.hid hts
          clear hts
          go_wp2_with fail
          go_roundw
          case rel => exact ⟨k + 1, by omega, by go_num, by rw [Xhts.out], by trivial⟩
          case measure => simp [intOf]; omega
      · obtain rfl : k = bound.length := by omega
        rw [List.take_length]
        go_wp2_with fail
        go_ret
        have hww : w.heap.size = X := XhX.out
        exact ⟨by rw [Xhs0.out]; rfl, Xkk2.out.mono fun b _ h => by omega⟩
  · obtain ⟨j, hj1, hj2, hj3⟩ := Xhsome.out (by omega)
    subst hj1
    have hge : (j : Int) ≥ 0 := by omega
    have hj4 : (j : Int) < sizes.length := by omega
    obtain ⟨b8, o8, rfl, hb8, zv, hcl, hzi⟩ := Xhe7.out j z hj3
    obtain ⟨zd, zc, rfl, hzl, hzc, hez⟩ := hzi
    have g : ∀ i v, [Value.string z.pred, .int .i64 z.rows, .slice zd z.dist.length zc][i]? = some v → W1.cell? ⟨b8, o8 + j * 3 + i, none⟩ = some v := fun i v h => kk.cell (hcl i v h) (show b8 < X by omega)
    have d0 := g 0 _ rfl
    have d1 := g 1 _ rfl
    have d2 := g 2 _ rfl
    simp only [Nat.add_zero] at d0
    have hb8l : b8 < W1.heap.size := by omega
    clear g hcl hj3
    have Xbx1 := Lib.hid bx1
    have Xkk := Lib.hid kk
    have Xhez := Lib.hid hez
    have Xhs0 := Lib.hid hs0
    clear bx1 kk hez hs0
    go_wp2_with fail
    refine wp_abs (fun W => Keep (fun b => b < X) w W ∧ W.heap[X]? = some (.cells #[.string z.pred, .int .i64 z.rows, .slice zd z.dist.length zc] 63 (0, 0))) ⟨Xkk.out.trans (((Keep.setCell _ _ _ (by simp)).trans (Keep.setCell _ _ _ (by simp))).trans (Keep.setCell _ _ _ (by simp))), by
      have h1 := set_at 0 (.string z.pred) Xbx1.out
      have h2 := set_at 1 (.int .i64 z.rows) h1
      have h3 := set_at 2 (.slice zd z.dist.length zc) h2
      exact h3⟩ ?_
    clear x0 x1 x2 y0 y1 y2 f7 f4 f6 hXl hb7l hb4l hb6l d0 d1 d2 hb8l
    rintro W2 ⟨kk2, bx3⟩
    have hz2 : X < W2.heap.size := heap_lt bx3
    have hww : w.heap.size = X := XhX.out
    have x2 := cells_of_block bx3 2 _ rfl
    simp only [Nat.zero_add] at x2
    clear hww bx3
    have Xkk2 := Lib.hid kk2
    clear kk2
    go_loopw [7, 28] (fun x7 i' wr => ∃ k : Nat, k ≤ bound.length ∧ i' = .int .i64 (k : Int) ∧ x7 = .float .f64 ((bound.take k).foldl (thin z) s0) ∧ wr = W2) (fun _ i _ => bound.length - (intOf i).toNat)
    case atStart => exact ⟨0, by omega, rfl, rfl, rfl⟩
    case round =>
      obtain ⟨k, hk, rfl, rfl, hw⟩ := hrel
      have hw := hw.symm
      subst hw
      by_cases hlt : k < bound.length
      · have hlt1 : (k : Int) < bound.length := by omega
        have hk0 : (0 : Int) ≤ k := by omega
        obtain ⟨c, hc⟩ : ∃ x, bound[k]? = some x := ⟨_, List.getElem?_eq_getElem hlt⟩
        obtain ⟨b9, o9, rfl, hb9, q0⟩ := Xheb.out k c hc
        unfold IntE at q0
        simp only [Nat.mul_one] at q0
        have f0 := Xkk2.out.cell q0 (show b9 < X by omega)
        have hb9w : b9 < W2.heap.size := by omega
        have hts := thins_snoc z s0 bound hc
        have hc0 := Xhpos.out c (List.mem_of_getElem? hc)
        have hle := thins_le Xhz.out (bound.take k) hs0c
        obtain ⟨v, hv⟩ : ∃ v, (bound.take k).foldl (thin z) s0 = v := ⟨_, rfl⟩
        rw [hv] at hle hts ⊢
        clear q0 hc hv
        by_cases hcl : c < z.dist.length
        · obtain ⟨d, hd⟩ : ∃ d, z.dist[c.toNat]? = some d := ⟨_, List.getElem?_eq_getElem (by omega)⟩
          obtain ⟨b10, o10, hzd, hb10, r0⟩ := Xhez.out c.toNat d hd
          subst hzd
          unfold IntE at r0
          simp only [Nat.mul_one] at r0
          have f1 := Xkk2.out.cell r0 (show b10 < X by omega)
          have hb10w : b10 < W2.heap.size := by omega
          have hgd : z.dist.getD c.toNat 0 = d := by rw [List.getD_eq_getElem?_getD, hd]; rfl
          have hfd := Xhz.out.2.2 d (List.mem_of_getElem? hd)
          have ht1 : thin z v c = if 0 < d then fdiv v (ofInt d) else v := by
            unfold thin
            rw [hgd]
            by_cases h : 0 < d
            · rw [if_pos ⟨hcl, h⟩, if_pos h]
            · rw [if_neg (fun x => h x.2), if_neg h]
          rw [ht1] at hts
          clear hd hgd r0 ht1
          by_cases hd0 : 0 < d
          · rw [if_pos hd0] at hts
            have hdiv := fun w => run_fdiv (a := v) (b := ofInt d) (by omega) (ofInt_fin (by omega) (by omega)) (by have := ofInt_one (n := d) (by omega); omega) w
            have Xhts := Lib.hid hts
            clear hts
            go_wp2_with fail
            go_roundw
            case rel => exact ⟨k + 1, by omega, by go_num, by rw [Xhts.out], by trivial⟩
            case measure => simp [intOf]; omega
          · rw [if_neg hd0] at hts
            have Xhts := Lib.hid hts
            clear hts
            go_wp2_with fail
            go_roundw
            case rel => exact ⟨k + 1, by omega, by go_num, by rw [Xhts.out], by trivial⟩
            case measure => simp [intOf]; omega
        · have ht1 : thin z v c = v := by
            unfold thin
            exact if_neg (fun h => hcl h.1)
          rw [ht1] at hts
          clear ht1
          have Xhts := Lib.hid hts
          clear hts
          go_wp2_with fail
          go_roundw
          case rel => exact ⟨k + 1, by omega, by go_num, by rw [Xhts.out], by trivial⟩
          case measure => simp [intOf]; omega
      · obtain rfl : k = bound.length := by omega
        rw [List.take_length]
        go_wp2_with fail
        go_ret
        have hww : w.heap.size = X := XhX.out
        exact ⟨by rw [Xhs0.out]; rfl, Xkk2.out.mono fun b _ h => by omega⟩

theorem three0 (f0 f1 f2 : Fn) (c0 c1 c2 : Array Value) (w : World) : (Instr.index 121 (.agg #[.func f0 #[] c0, .func f1 #[] c1, .func f2 #[] c2]) (.int .i64 0)).run Try.prog w = .ok (.func f0 #[] c0) w := by kernel_rfl
theorem three1 (f0 f1 f2 : Fn) (c0 c1 c2 : Array Value) (w : World) : (Instr.index 121 (.agg #[.func f0 #[] c0, .func f1 #[] c1, .func f2 #[] c2]) (.int .i64 1)).run Try.prog w = .ok (.func f1 #[] c1) w := by kernel_rfl
theorem three2 (f0 f1 f2 : Fn) (c0 c1 c2 : Array Value) (w : World) : (Instr.index 121 (.agg #[.func f0 #[] c0, .func f1 #[] c1, .func f2 #[] c2]) (.int .i64 2)).run Try.prog w = .ok (.func f2 #[] c2) w := by kernel_rfl
set_option maxRecDepth 100000 in
theorem behind_any (n : Nat) (a : Nat) (ha : a ≤ 9094988921128908188) (L : LitD) (sa : Value) (s : StepD) (bv nv : Value) (sizes : List SizeD) (sv : Value) (hu : usableB sizes = true) (hpos : ∀ c, c ∈ s.bound → 0 ≤ c) (hk : L.kind = 1 ∨ L.kind = 2 ∨ L.kind = 3) (w : World)
    (hsa : ∃ x m c, sa = .slice x m c) (hnv : ∃ x m c, nv = .slice x m c) (hs : SizesIn n w sv sizes) (hb : IntsIn n w bv s.bound) (hn : n ≤ w.heap.size) :
    Calls Try.prog 40 #[.float .f64 a, litV L sa, stepV s bv nv, sv] w fun e w' => e = .returned (.float .f64 (behindD a L s.bound sizes)) ∧ Keep (fun b => b < w.heap.size) w w' := by
  obtain ⟨W0, hW0⟩ : ∃ W0, (((w.alloc (.cells #[.float .f64 a] 49)).alloc (.cells #[.int .i64 L.kind, .string L.atom.pred, sa, .bool L.left.var, .string L.left.text, .bool L.right.var, .string L.right.text] 78)).alloc (.cells #[.int .i64 s.lit, bv, nv] 73)).alloc (.cells #[sv] 29) = W0 := ⟨_, rfl⟩
  have k0 : Keep (fun _ => True) w W0 := by rw [← hW0]; exact (((Keep.alloc _ _ _).trans (Keep.alloc _ _ _)).trans (Keep.alloc _ _ _)).trans (Keep.alloc _ _ _)
  have z0 : W0.heap.size = w.heap.size + 1 + 1 + 1 + 1 := by rw [← hW0]; simp
  have g1 : W0.heap[w.heap.size]? = some (.cells #[.float .f64 a] 49 (0, 0)) := by rw [← hW0]; simp only [alloc_get, World.size_alloc]; rw [if_neg (by omega), if_neg (by omega), if_neg (by omega), if_pos trivial]
  have g2 : W0.heap[w.heap.size + 1]? = some (.cells #[.int .i64 L.kind, .string L.atom.pred, sa, .bool L.left.var, .string L.left.text, .bool L.right.var, .string L.right.text] 78 (0, 0)) := by rw [← hW0]; simp only [alloc_get, World.size_alloc]; simp
  have g3 : W0.heap[w.heap.size + 1 + 1]? = some (.cells #[.int .i64 s.lit, bv, nv] 73 (0, 0)) := by rw [← hW0]; simp only [alloc_get, World.size_alloc]; simp
  have g4 : W0.heap[w.heap.size + 1 + 1 + 1]? = some (.cells #[sv] 29 (0, 0)) := by rw [← hW0]; simp only [alloc_get, World.size_alloc]; simp
  have c4 := cells_of_block g1 0 _ rfl
  have c5 := cells_of_block g2 1 _ rfl
  have c6 := cells_of_block g3 1 _ rfl
  have c7 := cells_of_block g4 0 _ rfl
  simp only [Nat.zero_add] at c4 c5 c6 c7
  have h1 := behind1_any n (w.heap.size + 1 + 1 + 1) (w.heap.size + 1) w.heap.size (w.heap.size + 1 + 1) a ha sizes sv L.atom.pred s.bound bv hu hpos W0 (hs.keep (k0.mono fun _ _ _ => trivial)) (ints_kept hb (k0.mono fun _ _ _ => trivial)) (by omega) c7 c5 c4 c6
  have h2 := behind2_any w.heap.size a ha W0 c4
  have h3 := behind3_any w.heap.size a ha W0 c4
  have e1 : L.kind = 1 → behindD a L s.bound sizes = s.bound.foldl (thin (findS sizes L.atom.pred)) (cap (fmul a (ofInt (findS sizes L.atom.pred).rows))) := fun h => by unfold behindD; rw [if_neg (by omega), if_neg (by omega)]
  have e2 : L.kind = 2 → behindD a L s.bound sizes = fdiv a 4611686018427387904 := fun h => by unfold behindD; rw [if_pos h]
  have e3 : L.kind = 3 → behindD a L s.bound sizes = tenths a := fun h => by unfold behindD; rw [if_neg (by omega), if_pos h]
  obtain ⟨asv, csv, rfl, -, -, -⟩ := id hs
  obtain ⟨abv, cbv, rfl, -, -, -⟩ := id hb
  obtain ⟨asa, msa, csa, rfl⟩ := hsa
  obtain ⟨anv, mnv, cnv, rfl⟩ := hnv
  obtain ⟨kd, ⟨pr, args⟩, ⟨lv, lt⟩, ⟨rv, rt⟩⟩ := L
  obtain ⟨si, sb, sn⟩ := s
  unfold litV stepV
  simp only at *
  clear hs hb g1 g2 g3 g4 c4 c5 c6 c7 hpos
  have Xh1 := Lib.hid h1
  have Xh2 := Lib.hid h2
  have Xh3 := Lib.hid h3
  have Xe1 := Lib.hid e1
  have Xe2 := Lib.hid e2
  have Xe3 := Lib.hid e3
  have Xk0 := Lib.hid k0
  have XhW0 := Lib.hid hW0
  clear h1 h2 h3 e1 e2 e3 k0 hW0
  have t0 := fun f0 f1 f2 c0 c1 c2 w => three0 f0 f1 f2 c0 c1 c2 w
  have t1 := fun f0 f1 f2 c0 c1 c2 w => three1 f0 f1 f2 c0 c1 c2 w
  have t2 := fun f0 f1 f2 c0 c1 c2 w => three2 f0 f1 f2 c0 c1 c2 w
  rcases hk with rfl | rfl | rfl
  · go_enter Try.func40, Try.ntmps40
    go_wp2_with fail
    rw [XhW0.out]
    refine Xh1.out.mono ?_
    rintro e W1 ⟨rfl, k1⟩
    go_wp2_with fail
    go_ret
    exact ⟨by rw [Xe1.out (by trivial)]; rfl, (Xk0.out.mono fun _ _ _ => trivial).trans (k1.mono fun b hb _ => by omega)⟩
  · go_enter Try.func40, Try.ntmps40
    go_wp2_with fail
    rw [XhW0.out]
    refine Xh2.out.mono ?_
    rintro e W1 ⟨rfl, hw1⟩
    subst hw1
    go_wp2_with fail
    go_ret
    exact ⟨by rw [Xe2.out (by trivial)]; rfl, Xk0.out.mono fun _ _ _ => trivial⟩
  · go_enter Try.func40, Try.ntmps40
    go_wp2_with fail
    rw [XhW0.out]
    refine Xh3.out.mono ?_
    rintro e W1 ⟨rfl, hw1⟩
    subst hw1
    go_wp2_with fail
    go_ret
    exact ⟨by rw [Xe3.out (by trivial)]; rfl, Xk0.out.mono fun _ _ _ => trivial⟩
end Go.Proofs
