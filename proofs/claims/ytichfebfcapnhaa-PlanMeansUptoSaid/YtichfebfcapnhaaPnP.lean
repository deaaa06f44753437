/- Layer 16 (plan): the rows behind a step, the document's. -/
import Derived.Test.YtichfebfcapnhaaProg
import Derived.Test.YtichfebfcapnhaaPnO
import Derived.Deep.QuietTactic
import Derived.BigQuiet
namespace Go.Proofs
open Go.RowKit Go.Ink Go.Flt
set_option linter.unusedVariables false
set_option linter.unusedSimpArgs false
attribute [local go_sem] Oper.semAt_some

theorem find_drop {l : List SizeD} {pred : ByteArray} {k : Nat} {s : SizeD} (h : l[k]? = some s) : findS (l.drop k) pred = if s.pred = pred then s else findS (l.drop (k + 1)) pred := by
  have hlt := (List.getElem?_eq_some_iff.1 h).1
  have he := (List.getElem?_eq_some_iff.1 h).2
  unfold findS
  rw [List.drop_eq_getElem_cons hlt, he, List.find?_cons]
  by_cases hp : s.pred = pred
  · rw [decide_eq_true hp, if_pos hp]; rfl
  · rw [decide_eq_false hp, if_neg hp]
theorem find_end (l : List SizeD) (pred : ByteArray) : findS (l.drop l.length) pred = ⟨⟨#[]⟩, 0, []⟩ := by
  rw [List.drop_length]; rfl
theorem one_int : ofInt 1 = 4607182418800017408 := by decide +kernel

set_option maxRecDepth 100000 in
set_option maxHeartbeats 1000000 in
theorem refBehind_any (n : Nat) (a : Nat) (ha : a ≤ 9094988921128908188) (L : LitD) (sa : Value) (s : StepD) (bv nv : Value) (sizes : List SizeD) (sv : Value) (hu : usableB sizes = true) (hpos : ∀ c, c ∈ s.bound → 0 ≤ c) (w : World)
    (hsa : ∃ x m c, sa = .slice x m c) (hnv : ∃ x m c, nv = .slice x m c) (hs : SizesIn n w sv sizes) (hb : IntsIn n w bv s.bound) (hn : n ≤ w.heap.size) :
    Calls Try.prog 46 #[.float .f64 a, litV L sa, stepV s bv nv, sv] w fun e w' => e = .returned (.float .f64 (behindD a L s.bound sizes)) ∧ Keep (fun b => b < w.heap.size) w w' := by
  have e1 : L.kind ≠ 2 → L.kind ≠ 3 → behindD a L s.bound sizes = s.bound.foldl (thin (findS sizes L.atom.pred)) (cap (fmul a (ofInt (findS sizes L.atom.pred).rows))) := fun h2 h3 => by unfold behindD; rw [if_neg h2, if_neg h3]
  have e2 : L.kind = 2 → behindD a L s.bound sizes = fdiv a 4611686018427387904 := fun h => by unfold behindD; rw [if_pos h]
  have e3 : L.kind = 3 → behindD a L s.bound sizes = tenths a := fun h => by unfold behindD; rw [if_neg (by omega), if_pos h]
  obtain ⟨asv, csv, rfl, hls, hcs, hes⟩ := id hs
  obtain ⟨abv, cbv, rfl, hlb, hcb, heb⟩ := id hb
  obtain ⟨asa, msa, csa, rfl⟩ := hsa
  obtain ⟨anv, mnv, cnv, rfl⟩ := hnv
  obtain ⟨kd, ⟨pr, args⟩, ⟨lv, lt⟩, ⟨rv, rt⟩⟩ := L
  obtain ⟨si, bound, sn⟩ := s
  unfold litV stepV
  simp only at *
  by_cases hk2 : kd = 2
  · have hd := fun w => run_fdiv (a := a) (b := 4611686018427387904) (by omega) (by decide) (by decide) w
    have hE := e2 hk2
    subst hk2
    clear hs hb hpos e1 e2 e3 hes heb ha
    have XhE := Lib.hid hE
    clear hE
    go_enter Try.func46, Try.ntmps46
    go_wp2_with fail
    go_ret
    exact ⟨by rw [XhE.out]; rfl, (Keep.alloc _ _ _).trans (Keep.alloc _ _ _)⟩
  by_cases hk3 : kd = 3
  · have hm := fun w => run_fmul (a := a) (b := 4621256167635550208) (by omega) (by decide) w
    have hd := fun w => run_fdiv (a := fmul a 4621256167635550208) (b := 4621819117588971520) (mul9_fin ha) (by decide) (by decide) w
    have hE := e3 hk3
    subst hk3
    clear hs hb hpos e1 e2 e3 hes heb ha
    have XhE := Lib.hid hE
    clear hE
    go_enter Try.func46, Try.ntmps46
    go_wp2_with fail
    go_ret
    exact ⟨by rw [XhE.out]; rfl, (Keep.alloc _ _ _).trans (Keep.alloc _ _ _)⟩
  have hE := e1 hk2 hk3
  have hkb2 : (kd == 2) = false := beq_eq_false_iff_ne.2 hk2
  have hkb3 : (kd == 3) = false := beq_eq_false_iff_ne.2 hk3
  have hz := find_fit hu pr
  have hconv := fun n w => run_conv n w
  obtain ⟨z, hze⟩ : ∃ z, findS sizes pr = z := ⟨_, rfl⟩
  rw [hze] at hz hE
  have hr := ofInt_fin hz.1 hz.2.1
  have hmul := fun w => run_fmul (a := a) (b := ofInt z.rows) (by omega) hr w
  have hm := fmul_inf (a := a) (b := ofInt z.rows) (by omega) hr
  have hord : (FloatKind.f64.format.order (fmul a (ofInt z.rows)) 9094988921128908188 == some .gt) = decide (9094988921128908188 < fmul a (ofInt z.rows)) := by
    have : FloatKind.f64.format.order (fmul a (ofInt z.rows)) 9094988921128908188 = some (compare (fmul a (ofInt z.rows)) 9094988921128908188) := order_cap hm
    rw [this]
    have e : compare (fmul a (ofInt z.rows)) 9094988921128908188 = if fmul a (ofInt z.rows) < 9094988921128908188 then .lt else if fmul a (ofInt z.rows) = 9094988921128908188 then .eq else .gt := rfl
    rw [e]
    generalize fmul a (ofInt z.rows) = x
    rcases Nat.lt_trichotomy x 9094988921128908188 with h | h | h
    · rw [if_pos h, decide_eq_false (by omega)]; rfl
    · rw [if_neg (show ¬ x < 9094988921128908188 by omega), if_pos h, decide_eq_false (by omega)]; rfl
    · rw [if_neg (show ¬ x < 9094988921128908188 by omega), if_neg (show ¬ x = 9094988921128908188 by omega), decide_eq_true h]; rfl
  obtain ⟨nb, hnb⟩ : ∃ nb, w.heap.size = nb := ⟨_, rfl⟩
  clear hs hb e1 e2 e3 hk2 hk3
  have Xhes := Lib.hid hes
  have Xheb := Lib.hid heb
  have XhE := Lib.hid hE
  have Xhz := Lib.hid hz
  have Xhze := Lib.hid hze
  have Xhpos := Lib.hid hpos
  have Xhnb := Lib.hid hnb
  clear hes heb hE hz hze hpos hnb
  go_enter Try.func46, Try.ntmps46
  go_wp2_with fail
  refine wp_abs (fun W => Keep (fun b => b < w.heap.size) w W ∧ W.heap.size = w.heap.size + 1 + 1 + 1 ∧ W.heap[w.heap.size]? = some (.cells #[.int .i64 kd, .string pr, .slice asa msa csa, .bool lv, .string lt, .bool rv, .string rt] 78 (0, 0)) ∧
    W.heap[w.heap.size + 1]? = some (.cells #[.int .i64 si, .slice abv bound.length cbv, .slice anv mnv cnv] 73 (0, 0)) ∧
    W.heap[w.heap.size + 1 + 1]? = some (.cells #[.string ⟨#[]⟩, .int .i64 0, .slice none 0 0] 63 (0, 0))) ⟨((Keep.alloc _ _ _).trans (Keep.alloc _ _ _)).trans (Keep.alloc _ _ _), by simp, by simp only [alloc_get, World.size_alloc]; simp; omega, by simp only [alloc_get, World.size_alloc]; simp, by simp only [alloc_get, World.size_alloc]; simp⟩ ?_
  rintro W0 ⟨k0, z0, g1, g2, g3⟩
  rw [Xhnb.out] at k0 z0 g1 g2 g3 ⊢
  have hnn : n ≤ nb := by have := Xhnb.out; omega
  have Xk0 := Lib.hid k0
  have Xg1 := Lib.hid g1
  have Xg2 := Lib.hid g2
  have Xg3 := Lib.hid g3
  clear k0 g1 g2 g3
  go_loopw [10] (fun i wr => ∃ (k : Nat) (zd : Option Addr) (zc : Nat), k ≤ sizes.length ∧ i = .int .i64 ((k : Int) - 1) ∧ Keep (fun b => b < nb + 1 + 1) W0 wr ∧
    wr.heap[nb + 1 + 1]? = some (.cells #[.string (findS (sizes.drop k) pr).pred, .int .i64 (findS (sizes.drop k) pr).rows, .slice zd (findS (sizes.drop k) pr).dist.length zc] 63 (0, 0)) ∧
    IntsIn n w (.slice zd (findS (sizes.drop k) pr).dist.length zc) (findS (sizes.drop k) pr).dist) (fun i _ => (intOf i + 1).toNat)
  case atStart => exact ⟨sizes.length, none, 0, by omega, rfl, Keep.refl _ _, by rw [find_end]; exact Xg3.out, by rw [find_end]; exact ⟨none, 0, rfl, by simp, by simp [maxLen], by simp⟩⟩
  case round =>
    obtain ⟨k, zd, zc, hk, rfl, hK, hX, hI⟩ := hrel
    have hsz := hK.size
    have hxl := heap_lt hX
    have p1 := hK.heap Xg1.out (show nb < nb + 1 + 1 by omega)
    have q1 := cells_of_block p1 1 _ rfl
    simp only [Nat.zero_add] at q1
    have hnbl : nb < wr.heap.size := by omega
    have kw : Keep (fun b => b < nb) w wr := (Xk0.out.mono fun b _ h => h).trans (hK.mono fun b _ h => by omega)
    cases k with
    | zero =>
      rw [List.drop_zero, Xhze.out] at hX hI
      clear hk
      have hi : (((0 : Nat) : Int) - 1) = -1 := by omega
      rw [hi]
      clear hi
      obtain ⟨W1, hW1⟩ : ∃ W1, wr = W1 := ⟨_, rfl⟩
      subst hW1
      have x1 := cells_of_block hX 1 _ rfl
      have x2 := cells_of_block hX 2 _ rfl
      have p2 := hK.heap Xg2.out (show nb + 1 < nb + 1 + 1 by omega)
      have q2 := cells_of_block p2 1 _ rfl
      simp only [Nat.zero_add] at x1 x2 q2
      have hnbl2 : nb + 1 < wr.heap.size := by omega
      obtain ⟨_, _, hIe, hzl, hzc, hez⟩ := hI
      cases hIe
      have hcap : ∀ b, decide (9094988921128908188 < fmul a (ofInt z.rows)) = b → cap (fmul a (ofInt z.rows)) = if b then 9094988921128908188 else fmul a (ofInt z.rows) := fun b hb => by
        subst hb
        unfold cap
        by_cases h : 9094988921128908188 < fmul a (ofInt z.rows)
        · rw [if_neg (by omega), decide_eq_true h, if_pos rfl]
        · rw [if_pos (by omega), decide_eq_false h, if_neg (by simp)]
      obtain ⟨bg, hbg⟩ : ∃ b, decide (9094988921128908188 < fmul a (ofInt z.rows)) = b := ⟨_, rfl⟩
      have hcap := hcap bg hbg
      rw [hbg] at hord
      obtain ⟨s0, hs0⟩ : ∃ s0, cap (fmul a (ofInt z.rows)) = s0 := ⟨_, rfl⟩
      have hs0c : s0 ≤ 9094988921128908188 := by rw [← hs0]; exact cap_le _
      rw [hs0] at hcap
      have h1i := one_int
      clear hX p1 p2 hbg
      have hEE : behindD a ⟨kd, ⟨pr, args⟩, ⟨lv, lt⟩, ⟨rv, rt⟩⟩ bound sizes = bound.foldl (thin z) s0 := by rw [XhE.out, hs0]
      clear hs0 XhE Xg1 Xg2 Xg3 Xhze
      have XhK := Lib.hid hK
      have Xkw := Lib.hid kw
      have Xhez := Lib.hid hez
      have Xhcap := Lib.hid hcap
      have XhEE := Lib.hid hEE
      have Xh1i := Lib.hid h1i
      clear hK kw hez hcap hEE h1i
      have hord' := hord
      cases bg
      · go_wp2_with fail
        go_loopw [11, 12] (fun x11 i' wq => ∃ k : Nat, k ≤ bound.length ∧ i' = .int .i64 (k : Int) ∧ x11 = .float .f64 ((bound.take k).foldl (thin z) s0) ∧ wq = wr) (fun _ i _ => bound.length - (intOf i).toNat)
        case atStart => exact ⟨0, by omega, rfl, by rw [Xhcap.out]; rfl, rfl⟩
        case round =>
          obtain ⟨k, hk, rfl, rfl, hw⟩ := hrel
          have hw := hw.symm
          subst hw
          by_cases hlt : k < bound.length
          · have hlt1 : (k : Int) < bound.length := by omega
            have hk0 : (0 : Int) ≤ k := by omega
            obtain ⟨c, hc⟩ : ∃ x, bound[k]? = some x := ⟨_, List.getElem?_eq_getElem hlt⟩
            obtain ⟨b9, o9, rfl, hb9, q0⟩ := Xheb.out k c hc
            unfold IntE at q0
            simp only [Nat.mul_one] at q0
            have f0 := Xkw.out.cell q0 (show b9 < nb by omega)
            have hb9w : b9 < wr.heap.size := by omega
            have hts := thins_snoc z s0 bound hc
            have hc0 := Xhpos.out c (List.mem_of_getElem? hc)
            have hle := thins_le Xhz.out (bound.take k) hs0c
            obtain ⟨v, hv⟩ : ∃ v, (bound.take k).foldl (thin z) s0 = v := ⟨_, rfl⟩
            rw [hv] at hle hts ⊢
            clear q0 hc hv
            have hdiv1 := fun w => run_fdiv (a := v) (b := ofInt 1) (by omega) (ofInt_fin (by omega) (by omega)) (by rw [one_int]; omega) w
            have hone : fdiv v (ofInt 1) = v := by rw [one_int]; exact div_one (by omega)
            simp only [hone] at hdiv1
            clear hone
            by_cases hcl : c < z.dist.length
            · obtain ⟨d, hd⟩ : ∃ d, z.dist[c.toNat]? = some d := ⟨_, List.getElem?_eq_getElem (by omega)⟩
              obtain ⟨b10, o10, hzd, hb10, r0⟩ := Xhez.out c.toNat d hd
              subst hzd
              unfold IntE at r0
              simp only [Nat.mul_one] at r0
              have f1 := Xkw.out.cell r0 (show b10 < nb by omega)
              have hb10w : b10 < wr.heap.size := by omega
              have hgd : z.dist.getD c.toNat 0 = d := by rw [List.getD_eq_getElem?_getD, hd]; rfl
              have hfd := Xhz.out.2.2 d (List.mem_of_getElem? hd)
              have ht1 : thin z v c = if 0 < d then fdiv v (ofInt d) else v := by
                unfold thin
                rw [hgd]
                by_cases h : 0 < d
                · rw [if_pos ⟨hcl, h⟩, if_pos h]
                · rw [if_neg (fun x => h x.2), if_neg h]
              rw [ht1] at hts
              clear hd hgd r0 ht1
              by_cases hd0 : 0 < d
              · rw [if_pos hd0] at hts
                have hdiv := fun w => run_fdiv (a := v) (b := ofInt d) (by omega) (ofInt_fin (by omega) (by omega)) (by have := ofInt_one (n := d) (by omega); omega) w
                clear hdiv1
                have Xhts := Lib.hid hts
                clear hts
                go_wp2_with fail
                go_roundw
                case rel => exact ⟨k + 1, by omega, by go_num, by rw [Xhts.out], by trivial⟩
                case measure => simp [intOf]; omega
              · rw [if_neg hd0] at hts
                have Xhts := Lib.hid hts
                clear hts
                go_wp2_with fail
                go_roundw
                case rel => exact ⟨k + 1, by omega, by go_num, by rw [Xhts.out], by trivial⟩
                case measure => simp [intOf]; omega
            · have ht1 : thin z v c = v := by
                unfold thin
                exact if_neg (fun h => hcl h.1)
              rw [ht1] at hts
              clear ht1
              have Xhts := Lib.hid hts
              clear hts
              go_wp2_with fail
              go_roundw
              case rel => exact ⟨k + 1, by omega, by go_num, by rw [Xhts.out], by trivial⟩
              case measure => simp [intOf]; omega
          · obtain rfl : k = bound.length := by omega
            rw [List.take_length]
            go_wp2_with fail
            go_ret
            exact ⟨by rw [XhEE.out]; rfl, Xkw.out.mono fun b _ h => by have := Xhnb.out; omega⟩
      · go_wp2_with fail
        go_loopw [11, 12] (fun x11 i' wq => ∃ k : Nat, k ≤ bound.length ∧ i' = .int .i64 (k : Int) ∧ x11 = .float .f64 ((bound.take k).foldl (thin z) s0) ∧ wq = wr) (fun _ i _ => bound.length - (intOf i).toNat)
        case atStart => exact ⟨0, by omega, rfl, by rw [Xhcap.out]; rfl, rfl⟩
        case round =>
          obtain ⟨k, hk, rfl, rfl, hw⟩ := hrel
          have hw := hw.symm
          subst hw
          by_cases hlt : k < bound.length
          · have hlt1 : (k : Int) < bound.length := by omega
            have hk0 : (0 : Int) ≤ k := by omega
            obtain ⟨c, hc⟩ : ∃ x, bound[k]? = some x := ⟨_, List.getElem?_eq_getElem hlt⟩
            obtain ⟨b9, o9, rfl, hb9, q0⟩ := Xheb.out k c hc
            unfold IntE at q0
            simp only [Nat.mul_one] at q0
            have f0 := Xkw.out.cell q0 (show b9 < nb by omega)
            have hb9w : b9 < wr.heap.size := by omega
            have hts := thins_snoc z s0 bound hc
            have hc0 := Xhpos.out c (List.mem_of_getElem? hc)
            have hle := thins_le Xhz.out (bound.take k) hs0c
            obtain ⟨v, hv⟩ : ∃ v, (bound.take k).foldl (thin z) s0 = v := ⟨_, rfl⟩
            rw [hv] at hle hts ⊢
            clear q0 hc hv
            have hdiv1 := fun w => run_fdiv (a := v) (b := ofInt 1) (by omega) (ofInt_fin (by omega) (by omega)) (by rw [one_int]; omega) w
            have hone : fdiv v (ofInt 1) = v := by rw [one_int]; exact div_one (by omega)
            simp only [hone] at hdiv1
            clear hone
            by_cases hcl : c < z.dist.length
            · obtain ⟨d, hd⟩ : ∃ d, z.dist[c.toNat]? = some d := ⟨_, List.getElem?_eq_getElem (by omega)⟩
              obtain ⟨b10, o10, hzd, hb10, r0⟩ := Xhez.out c.toNat d hd
              subst hzd
              unfold IntE at r0
              simp only [Nat.mul_one] at r0
              have f1 := Xkw.out.cell r0 (show b10 < nb by omega)
              have hb10w : b10 < wr.heap.size := by omega
              have hgd : z.dist.getD c.toNat 0 = d := by rw [List.getD_eq_getElem?_getD, hd]; rfl
              have hfd := Xhz.out.2.2 d (List.mem_of_getElem? hd)
              have ht1 : thin z v c = if 0 < d then fdiv v (ofInt d) else v := by
                unfold thin
                rw [hgd]
                by_cases h : 0 < d
                · rw [if_pos ⟨hcl, h⟩, if_pos h]
                · rw [if_neg (fun x => h x.2), if_neg h]
              rw [ht1] at hts
              clear hd hgd r0 ht1
              by_cases hd0 : 0 < d
              · rw [if_pos hd0] at hts
                have hdiv := fun w => run_fdiv (a := v) (b := ofInt d) (by omega) (ofInt_fin (by omega) (by omega)) (by have := ofInt_one (n := d) (by omega); omega) w
                clear hdiv1
                have Xhts := Lib.hid hts
                clear hts
                go_wp2_with fail
                go_roundw
                case rel => exact ⟨k + 1, by omega, by go_num, by rw [Xhts.out], by trivial⟩
                case measure => simp [intOf]; omega
              · rw [if_neg hd0] at hts
                have Xhts := Lib.hid hts
                clear hts
                go_wp2_with fail
                go_roundw
                case rel => exact ⟨k + 1, by omega, by go_num, by rw [Xhts.out], by trivial⟩
                case measure => simp [intOf]; omega
            · have ht1 : thin z v c = v := by
                unfold thin
                exact if_neg (fun h => hcl h.1)
              rw [ht1] at hts
              clear ht1
              have Xhts := Lib.hid hts
              clear hts
              go_wp2_with fail
              go_roundw
              case rel => exact ⟨k + 1, by omega, by go_num, by rw [Xhts.out], by trivial⟩
              case measure => simp [intOf]; omega
          · obtain rfl : k = bound.length := by omega
            rw [List.take_length]
            go_wp2_with fail
            go_ret
            exact ⟨by rw [XhEE.out]; rfl, Xkw.out.mono fun b _ h => by have := Xhnb.out; omega⟩
    | succ j =>
      have hj : j < sizes.length := by omega
      have hj0 : (0 : Int) ≤ (j : Int) := by omega
      have hj1 : (j : Int) < sizes.length := by omega
      have hi : (((j + 1 : Nat) : Int) - 1) = (j : Int) := by omega
      rw [hi]
      clear hi
      obtain ⟨x, hx⟩ : ∃ x, sizes[j]? = some x := ⟨_, List.getElem?_eq_getElem hj⟩
      obtain ⟨b8, o8, rfl, hb8, xv, hcl, hzi⟩ := Xhes.out j x hx
      have hfd := find_drop (pred := pr) hx
      obtain ⟨xd, xc, rfl, hzl, hzc, hez⟩ := id hzi
      have g : ∀ i v, [Value.string x.pred, .int .i64 x.rows, .slice xd x.dist.length xc][i]? = some v → wr.cell? ⟨b8, o8 + j * 3 + i, none⟩ = some v := fun i v h => kw.cell (hcl i v h) (show b8 < nb by omega)
      have d0 := g 0 _ rfl
      have d1 := g 1 _ rfl
      have d2 := g 2 _ rfl
      simp only [Nat.add_zero] at d0
      have hb8l : b8 < wr.heap.size := by omega
      have y0 := box_free hX 0
      have y1 := box_free hX 1
      have y2 := box_free hX 2
      have x0 := cells_of_block hX 0 _ rfl
      have x1 := cells_of_block hX 1 _ rfl
      have x2 := cells_of_block hX 2 _ rfl
      simp only [Nat.zero_add] at x0 x1 x2
      clear g hcl hx hez
      by_cases hp : x.pred = pr
      · have hpb := bytes_same hp
        rw [if_pos hp] at hfd
        have hX2 := set_at 2 (.slice xd x.dist.length xc) (set_at 1 (.int .i64 x.rows) (set_at 0 (.string x.pred) hX))
        simp only [List.setIfInBounds_toArray, List.set_cons_succ, List.set_cons_zero] at hX2
        have hK2 : Keep (fun b => b < nb + 1 + 1) W0 (((wr.setCell ⟨nb + 1 + 1, 0, none⟩ (.string x.pred)).setCell ⟨nb + 1 + 1, 1, none⟩ (.int .i64 x.rows)).setCell ⟨nb + 1 + 1, 2, none⟩ (.slice xd x.dist.length xc)) := hK.trans (((Keep.setCell _ _ _ (by simp)).trans (Keep.setCell _ _ _ (by simp))).trans (Keep.setCell _ _ _ (by simp)))
        clear hp
        have XhK := Lib.hid hK
        have XhX := Lib.hid hX
        have XhI := Lib.hid hI
        have Xkw := Lib.hid kw
        have Xp1 := Lib.hid p1
        have Xhfd := Lib.hid hfd
        have Xhzi := Lib.hid hzi
        have XhX2 := Lib.hid hX2
        have XhK2 := Lib.hid hK2
        clear hK hX hI kw p1 hfd hzi hX2 hK2
        go_wp2_with fail
        go_quiet (fail)
        go_wp2_with fail
        go_roundw
        case rel => exact ⟨j, xd, xc, by omega, rfl, (XhK.out.trans (Keep.drewN' _ _ _)).trans (((Keep.setCell _ _ _ (by simp)).trans (Keep.setCell _ _ _ (by simp))).trans (Keep.setCell _ _ _ (by simp))), by rw [Xhfd.out]; exact XhX2.out, by rw [Xhfd.out]; exact Xhzi.out⟩
        case measure => simp [intOf]
      · have hpb := bytes_other hp
        rw [if_neg hp] at hfd
        clear hp
        have XhK := Lib.hid hK
        have XhX := Lib.hid hX
        have XhI := Lib.hid hI
        have Xkw := Lib.hid kw
        have Xp1 := Lib.hid p1
        have Xhfd := Lib.hid hfd
        have Xhzi := Lib.hid hzi
        clear hK hX hI kw p1 hfd hzi
        go_wp2_with fail
        go_quiet (fail)
        go_wp2_with fail
        go_roundw
        case rel => exact ⟨j, zd, zc, by omega, rfl, XhK.out.trans (Keep.drewN' _ _ _), by rw [Xhfd.out]; exact XhX.out, by rw [Xhfd.out]; exact XhI.out⟩
        case measure => simp [intOf]
end Go.Proofs
