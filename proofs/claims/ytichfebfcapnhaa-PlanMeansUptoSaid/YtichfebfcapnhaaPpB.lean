/- Layer 16 (plan): the sizes of relations, the program's. -/
import Derived.Test.YtichfebfcapnhaaProg
import Derived.Test.YtichfebfcapnhaaPoEToPpA
import Derived.Test.YtichfebfcapnhaaPnTToPnU
import Derived.Test.YtichfebfcapnhaaPnX
import Derived.Test.YtichfebfcapnhaaOwnToRowC
import Derived.Laws.OwnMore
namespace Go.Proofs
open Go.RowKit Go.Ink
set_option linter.unusedVariables false
set_option linter.unusedSimpArgs false
attribute [local go_sem] Oper.semAt_some

set_option maxRecDepth 100000 in
set_option maxHeartbeats 2000000 in
theorem planSizes_any (n : Nat) (rs : List RelaD) (v : Value) (w : World) (hr : RelasIn n w v rs) (hn : n ≤ w.heap.size) :
    Calls Try.prog 26 #[v] w fun e w' => ∃ sv, e = .returned sv ∧ SizesOwn w.heap.size w' sv (rs.map sizeD) ∧ Keep (fun b => b < w.heap.size) w w' := by
  obtain ⟨a, c, rfl, hl, hcap, hel⟩ := id hr
  obtain ⟨O, hO⟩ : ∃ O, w.heap.size = O := ⟨_, rfl⟩
  have hmk := fun u => run_makeSizes rs.length hl u
  have Xhel := Lib.hid hel
  have XhO := Lib.hid hO
  have Xhr := Lib.hid hr
  clear hel hO hr
  go_enter Try.func26, Try.ntmps26
  go_upto_region 2 with fail
  refine wp_abs (fun W => Keep (fun b => b < w.heap.size) w W ∧ W.heap.size = w.heap.size + 1 ∧ W.heap[w.heap.size]? = some (.cells (zeros rs.length).toArray 63 (0, 0))) ⟨Keep.alloc _ _ _, by simp, by simp only [alloc_get, World.size_alloc]; simp⟩ ?_
  rintro W0 ⟨k0, z0, a1⟩
  rw [XhO.out] at k0 z0 a1 ⊢
  clear hmk
  have Xk0 := Lib.hid k0
  have Xa1 := Lib.hid a1
  clear k0 a1
  go_wp2_with fail
  go_loopw [15] (fun i' wr => ∃ (i : Nat) (qs : List (SizeD × Value)), i ≤ rs.length ∧ i' = .int .i64 (i : Int) ∧ Keep (fun b => b < O) W0 wr ∧ qs.map (·.1) = (rs.take i).map sizeD ∧
    wr.heap[O]? = some (.cells (qs.flatMap sizeC ++ zeros (rs.length - i)).toArray 63 (0, 0)) ∧ ∀ q, q ∈ qs → wr.ownsRow (O + 1) 3 1 q.2 q.1.dist.length (q.1.dist.map (.int .i64))) (fun i _ => rs.length - (intOf i).toNat)
  case atStart => exact ⟨0, [], by omega, rfl, Keep.refl _ _, rfl, Xa1.out, fun q hq => by cases hq⟩
  case round =>
    obtain ⟨i, qs, hi, rfl, hK, hqs, hOb, hrow⟩ := hrel
    have hsz := hK.size
    have hql : qs.length = i := by
      have := congrArg List.length hqs
      simp only [List.length_map, List.length_take] at this
      omega
    have hOl := heap_lt hOb
    have kw : Keep (fun b => b < O) w wr := Xk0.out.trans hK
    by_cases hlt : i < rs.length
    · have hlt1 : (i : Int) < rs.length := by omega
      have hi0 : (0 : Int) ≤ i := by omega
      obtain ⟨r, hr0⟩ : ∃ x, rs[i]? = some x := ⟨_, List.getElem?_eq_getElem hlt⟩
      obtain ⟨b4, o4, rfl, hb4, tv, hcl, htv⟩ := Xhel.out i r hr0
      have hb4O : b4 < O := by have := XhO.out; omega
      have hb4w : b4 < wr.heap.size := by omega
      have d0 := kw.cell (hcl 0 _ rfl) hb4O
      have d1 := kw.cell (hcl 1 _ rfl) hb4O
      have d2 := kw.cell (hcl 2 _ rfl) hb4O
      simp only [Nat.add_zero] at d0
      obtain ⟨at0, ct, rfl, hlt0, hct, -⟩ := id htv
      obtain ⟨m, hm⟩ : ∃ m, rs.length - i = m + 1 := ⟨rs.length - i - 1, by omega⟩
      have hAl : (qs.flatMap sizeC).length = i * 3 := by rw [sizeC_len, hql]
      rw [hm] at hOb
      have y0 := cells_of_block hOb (i * 3) _ (by rw [← hAl]; exact zeros_at _ m 0 (by decide))
      have y1 := cells_of_block hOb (i * 3 + 1) _ (by rw [← hAl]; exact zeros_at _ m 1 (by decide))
      have y2 := cells_of_block hOb (i * 3 + 2) _ (by rw [← hAl]; exact zeros_at _ m 2 (by decide))
      have g0 := box_free hOb (i * 3)
      have g1 := box_free hOb (i * 3 + 1)
      have g2 := box_free hOb (i * 3 + 2)
      simp only [Nat.zero_add] at y0 y1 y2
      clear hcl
      have XhK := Lib.hid hK
      have XhOb := Lib.hid hOb
      have Xhrow := Lib.hid hrow
      have Xkw := Lib.hid kw
      have Xhqs := Lib.hid hqs
      have Xhtv := Lib.hid htv
      have Xhr0 := Lib.hid hr0
      have XhAl := Lib.hid hAl
      clear hK hOb hrow kw hqs htv hr0 hAl
      go_upto_region 6 with fail
      obtain ⟨pr, ar, ts⟩ := r
      simp only at d0 d1 d2 hlt0 hct ⊢
      obtain ⟨W1, hW1⟩ : ∃ W1, ((wr.setCell ⟨O, i * 3, none⟩ (.string pr)).setCell ⟨O, i * 3 + 1, none⟩ (.int .i64 (ts.length : Int))).setCell ⟨O, i * 3 + 2, none⟩ (.slice none 0 0) = W1 := ⟨_, rfl⟩
      have k1 : Keep (fun b => b ≠ O) wr W1 := by rw [← hW1]; exact ((Keep.setCell _ _ _ (by simp)).trans (Keep.setCell _ _ _ (by simp))).trans (Keep.setCell _ _ _ (by simp))
      have z1 : W1.heap.size = wr.heap.size := by rw [← hW1]; simp [World.setCell]
      have hO1 := set_at (i * 3 + 2) (.slice none 0 0) (set_at (i * 3 + 1) (.int .i64 (ts.length : Int)) (set_at (i * 3) (.string pr) XhOb.out))
      rw [hW1] at hO1
      simp only [List.setIfInBounds_toArray] at hO1
      rw [← XhAl.out, zeros_set] at hO1
      rw [hW1]
      refine wp_abs (fun W => Keep (fun b => b ≠ O) wr W ∧ W.heap.size = wr.heap.size + 1 ∧ W.heap[O]? = some (.cells (qs.flatMap sizeC ++ ([.string pr, .int .i64 (ts.length : Int), .slice none 0 0] : List Value) ++ zeros m).toArray 63 (0, 0)) ∧ W.heap[wr.heap.size]? = some (.cells #[.string pr, .int .i64 ar, .slice at0 ts.length ct] 106 (0, 0)))
        ⟨k1.trans (Keep.alloc _ _ _), by simp [z1], (Keep.alloc (fun _ => True) W1 _).heap hO1 trivial, by rw [← z1]; exact new_block _ _⟩ ?_
      rintro W2 ⟨k2, z2, hO2, hB2⟩
      obtain ⟨B, hB⟩ : ∃ B, wr.heap.size = B := ⟨_, rfl⟩
      rw [hB] at z2 hB2 ⊢
      have hOB : O < B := by omega
      have hBl : B < W2.heap.size := by omega
      have x2 := cells_of_block hB2 2 _ rfl
      simp only [Nat.zero_add] at x2
      have kw2 : Keep (fun b => b < O) w W2 := Xkw.out.trans (k2.mono fun b _ h => by omega)
      have hrow2 : ∀ q, q ∈ qs → W2.ownsRow (O + 1) 3 1 q.2 q.1.dist.length (q.1.dist.map (.int .i64)) := fun q hq => own_kept (Xhrow.out q hq) k2 (fun b hb => by have := (World.ownsRow.lt (Xhrow.out q hq) b hb).1; omega)
      have hrow2l : ∀ q, q ∈ qs → ∀ b, q.2.ownBlock = some b → O + 1 ≤ b ∧ b < B := fun q hq b hb => by have := World.ownsRow.lt (Xhrow.out q hq) b hb; omega
      have hqs2 : ∀ va : Value, (qs ++ [(sizeD ⟨pr, ar, ts⟩, va)]).map (·.1) = (rs.take (i + 1)).map sizeD := fun va => by
        rw [List.map_append, Xhqs.out, List.take_add_one, Xhr0.out]; simp
      have kW0 : Keep (fun b => b < O) W0 W2 := XhK.out.trans (k2.mono fun b _ h => by omega)
      have hfin : ∀ (W : World) (va : Value), Keep (fun b => b ≠ O ∧ b < B) W2 W → W.heap[O]? = some (.cells (qs.flatMap sizeC ++ ([.string pr, .int .i64 (ts.length : Int), va] : List Value) ++ zeros m).toArray 63 (0, 0)) → W.ownsRow (O + 1) 3 1 va (wideD ts) ((distL ts (wideD ts)).map (.int .i64)) →
          ∃ (i1 : Nat) (qs : List (SizeD × Value)), i1 ≤ rs.length ∧ Value.int .i64 ((i : Int) + 1) = .int .i64 (i1 : Int) ∧ Keep (fun b => b < O) W0 W ∧ qs.map (·.1) = (rs.take i1).map sizeD ∧
            W.heap[O]? = some (.cells (qs.flatMap sizeC ++ zeros (rs.length - i1)).toArray 63 (0, 0)) ∧ ∀ q, q ∈ qs → W.ownsRow (O + 1) 3 1 q.2 q.1.dist.length (q.1.dist.map (.int .i64)) := fun W va kk hh ho => by
        refine ⟨i + 1, qs ++ [(sizeD ⟨pr, ar, ts⟩, va)], by omega, rfl, kW0.trans (kk.mono fun b _ h => by omega), hqs2 va, ?_, ?_⟩
        · rw [hh, show rs.length - (i + 1) = m by omega, List.flatMap_append]; rfl
        · intro q hq
          rcases List.mem_append.1 hq with hq | hq
          · exact own_kept (hrow2 q hq) kk (fun b hb => by have := hrow2l q hq b hb; omega)
          · simp only [List.mem_cons, List.not_mem_nil, or_false] at hq
            subst hq
            show W.ownsRow (O + 1) 3 1 va (distL ts (wideD ts)).length _
            rw [distL_len]; exact ho
      clear d0 d1 d2 y0 y1 y2 g0 g1 g2 k1 z1 hO1 hW1 hqs2 kW0 k2
      by_cases htn : ts.length = 0
      · have hz : ((ts.length : Int) == 0) = true := by simp [htn]
        have hf := hfin W2 (.slice none 0 0) (Keep.refl _ _) hO2 (by rw [List.eq_nil_of_length_eq_zero htn]; exact World.ownsRow_nil _ _ _ _)
        clear hfin
        have XhO2 := Lib.hid hO2
        have XhB2 := Lib.hid hB2
        have Xkw2 := Lib.hid kw2
        have Xhrow2 := Lib.hid hrow2
        have Xhtn := Lib.hid htn
        have Xhrow2l := Lib.hid hrow2l
        have Xhf := Lib.hid hf
        clear hO2 hB2 kw2 hrow2 htn hrow2l hf
        go_wp2_with fail
        go_roundw
        case rel => exact Xhf.out
        case measure => simp [intOf]; omega
      · have hz : ((ts.length : Int) == 0) = false := by simpa using htn
        obtain ⟨a9, c9, hv9, -, -, het⟩ := id Xhtv.out
        cases hv9
        obtain ⟨t0, ht0⟩ : ∃ t, ts[0]? = some t := ⟨_, List.getElem?_eq_getElem (by omega)⟩
        obtain ⟨bt, ot, rfl, hbt, s0, hs0, hss0⟩ := het 0 t0 ht0
        have hwide : wideD ts = t0.length := by unfold wideD; rw [List.getD_eq_getElem?_getD, ht0]; rfl
        have hbtO : bt < O := by have := XhO.out; omega
        have f0 := kw2.cell hs0 hbtO
        simp only [Nat.zero_mul, Nat.add_zero] at f0
        obtain ⟨as0, cs0, rfl, hl0, -, -⟩ := id hss0
        have hbtw : bt < W2.heap.size := by omega
        have hlt00 : (0 : Int) < ts.length := by omega
        rw [hwide] at hfin
        clear hs0 hss0 hwide
        have XhO2 := Lib.hid hO2
        have XhB2 := Lib.hid hB2
        have Xkw2 := Lib.hid kw2
        have Xhrow2 := Lib.hid hrow2
        have Xhrow2l := Lib.hid hrow2l
        have Xhfin := Lib.hid hfin
        have Xhet := Lib.hid het
        have Xht0 := Lib.hid ht0
        clear hO2 hB2 kw2 hrow2 hrow2l hfin het ht0
        go_wp2_with fail
        go_loopw [38] (fun i' wq => ∃ (c : Nat) (va : Value), c ≤ t0.length ∧ i' = .int .i64 (c : Int) ∧ Keep (fun b => b ≠ O ∧ b < B + 1) W2 wq ∧
          wq.heap[O]? = some (.cells (qs.flatMap sizeC ++ ([.string pr, .int .i64 (ts.length : Int), va] : List Value) ++ zeros m).toArray 63 (0, 0)) ∧ wq.ownsRow (B + 1) 3 1 va c ((distL ts c).map (.int .i64))) (fun i _ => t0.length - (intOf i).toNat)
        case atStart => exact ⟨0, _, by omega, rfl, Keep.refl _ _, XhO2.out, World.ownsRow_nil _ _ _ _⟩
        case round =>
          obtain ⟨c2, va, hc2, rfl, hK2, hOq, hva⟩ := hrel
          have hsz2 := hK2.size
          by_cases hlt2 : c2 < t0.length
          · have hlt21 : (c2 : Int) < t0.length := by omega
            have hc20 : (0 : Int) ≤ c2 := by omega
            have hBq := hK2.heap XhB2.out (show B ≠ O ∧ B < B + 1 by omega)
            have x3 := cells_of_block hBq 2 _ rfl
            simp only [Nat.zero_add] at x3
            have kwq : Keep (fun b => b < O) w wr := Xkw2.out.trans (hK2.mono fun b _ h => by omega)
            have hBl3 : B < wr.heap.size := by omega
            have hmm := fun w => run_makeSeen w
            clear x2 f0
            have XhK2 := Lib.hid hK2
            have XhOq := Lib.hid hOq
            have Xhva := Lib.hid hva
            have XhBq := Lib.hid hBq
            have Xkwq := Lib.hid kwq
            clear hK2 hOq hva hBq kwq
            go_wp2_with fail
            obtain ⟨Wq, hWq⟩ : ∃ W, W = wr := ⟨_, rfl⟩
            subst hWq
            refine wp_abs (fun W => Keep (fun _ => True) Wq W ∧ W.heap.size = Wq.heap.size + 1 ∧ SetIn W Wq.heap.size []) ⟨Keep.alloc _ _ _, by simp, setIn_new _⟩ ?_
            rintro W4 ⟨k4, z4, hS4⟩
            obtain ⟨M, hM⟩ : ∃ M, Wq.heap.size = M := ⟨_, rfl⟩
            rw [hM] at z4 hS4 ⊢
            have hBM : B < M := by omega
            have hWqM : W2.heap.size ≤ M := by omega
            clear hmm x3
            have Xk4 := Lib.hid k4
            have XhS4 := Lib.hid hS4
            have XhM := Lib.hid hM
            clear k4 hS4 hM
            go_loopw [45] (fun i' wk => ∃ k : Nat, k ≤ ts.length ∧ i' = .int .i64 (k : Int) ∧ Keep (fun b => b ≠ M) W4 wk ∧ SetIn wk M (onceL (colL (ts.take k) c2))) (fun i _ => ts.length - (intOf i).toNat)
            case atStart => exact ⟨0, by omega, rfl, Keep.refl _ _, XhS4.out⟩
            case round =>
              obtain ⟨k, hk, rfl, hK4, hS⟩ := hrel
              have hsz4 := hK4.size
              have kwk : Keep (fun b => b < O) w wr := (Xkwq.out.trans (Xk4.out.mono fun _ _ _ => trivial)).trans (hK4.mono fun b _ h => by omega)
              by_cases hlt4 : k < ts.length
              · have hlt41 : (k : Int) < ts.length := by omega
                have hk0 : (0 : Int) ≤ k := by omega
                obtain ⟨t, ht⟩ : ∃ t, ts[k]? = some t := ⟨_, List.getElem?_eq_getElem hlt4⟩
                obtain ⟨bt', ot', hat, hbt', sv, hsv, hss⟩ := Xhet.out k t ht
                cases hat
                have f1 := kwk.cell hsv hbtO
                simp only [Nat.mul_one] at f1
                obtain ⟨ast, cst, rfl, hlst, -, hest⟩ := id hss
                have hsn := colL_snoc ht c2
                have hbtk : bt < wr.heap.size := by omega
                by_cases hct2 : c2 < t.length
                · have hct21 : (c2 : Int) < t.length := by omega
                  obtain ⟨x, hx⟩ : ∃ x, t[c2]? = some x := ⟨_, List.getElem?_eq_getElem hct2⟩
                  obtain ⟨bs, os, rfl, hbs, q0⟩ := hest c2 x hx
                  have f2 := kwk.cell q0 (show bs < O by have := XhO.out; omega)
                  simp only [Nat.mul_one] at f2
                  have hbsw : bs < wr.heap.size := by have := XhO.out; omega
                  obtain ⟨W5, hr5, hs5, hk5, hz5⟩ := run_update_set (P := Try.prog) (T := 85) (K := 9) (E := 4) Try.underlying85 Try.underlying9 hS x
                  rw [hx, Option.toList_some] at hsn
                  rw [← onceL_snoc, ← hsn] at hs5
                  have hK5 := hK4.trans hk5
                  clear hsv hss hk5 hest q0 hx hz5 ht
                  have XhK4 := Lib.hid hK4
                  have Xhs5 := Lib.hid hs5
                  have XhK5 := Lib.hid hK5
                  have Xkwk := Lib.hid kwk
                  have XhS := Lib.hid hS
                  have Xhsn := Lib.hid hsn
                  clear hK4 hs5 hK5 kwk hS hsn
                  go_wp2_with fail
                  go_roundw
                  case rel => exact ⟨k + 1, by omega, by go_num, XhK5.out, Xhs5.out⟩
                  case measure => simp [intOf]; omega
                · have hno : t[c2]? = none := List.getElem?_eq_none (by omega)
                  rw [hno] at hsn
                  simp only [Option.toList_none, List.append_nil] at hsn
                  rw [← hsn] at hS
                  have hct21 : ¬ (c2 : Int) < t.length := by omega
                  clear hsv hss hest hno ht
                  have XhK4 := Lib.hid hK4
                  have Xkwk := Lib.hid kwk
                  have XhS := Lib.hid hS
                  have Xhsn := Lib.hid hsn
                  clear hK4 kwk hS hsn
                  go_wp2_with fail
                  go_roundw
                  case rel => exact ⟨k + 1, by omega, by go_num, XhK4.out, XhS.out⟩
                  case measure => simp [intOf]; omega
              · obtain rfl : k = ts.length := by omega
                rw [List.take_length] at hS
                have hlt40 : ¬ (ts.length : Int) < ts.length := by omega
                obtain ⟨av, cv, rfl⟩ := own_form Xhva.out
                have hvl := World.ownsRow.lt Xhva.out
                have hvW := own_kept (own_kept Xhva.out Xk4.out (fun _ _ => trivial)) hK4 (fun b hb => by have := (hvl b hb).2; have := XhM.out; omega)
                have hOw := hK4.heap (Xk4.out.heap XhOq.out trivial) (show O ≠ M by omega)
                have hOlw := heap_lt hOw
                have y2 := cells_of_block hOw (i * 3 + 2) _ (by rw [← XhAl.out]; exact mid_at _ _ _ _ _)
                simp only [Nat.zero_add] at y2
                obtain ⟨cnt, hcnt⟩ : ∃ c, countC ts c2 = c := ⟨_, rfl⟩
                obtain ⟨es, clk, hes, hes2⟩ := hS
                have hesz : es.size = cnt := by
                  have := congrArg List.length hes2
                  simp only [List.length_map, Array.length_toList] at this
                  rw [this]; exact hcnt
                have hlenr := run_len_map (P := Try.prog) wr.drew 85 3 M es clk (by kernel_rfl) hes
                rw [hesz] at hlenr
                have hMlt := heap_lt hes
                have hond : wr.drew.ownsRow (B + 1) 3 1 (.slice av c2 cv) c2 ((distL ts c2).map (.int .i64)) := own_kept hvW (Keep.drew (fun _ => True) wr) (fun _ _ => trivial)
                obtain ⟨v', W3, hr3, ho3, hk3, g, cap, hv3, hg3, hl3'⟩ := app1 (P := Try.prog) el_ints 61 hond [.int .i64 (cnt : Int)] rfl (by simp [Value.oneCell']) (by omega) (show B + 1 ≤ wr.heap.size by omega)
                subst hv3
                replace hr3 : (Builtin.append_ #[61, 61] 61 #[.slice av c2 cv, .slice (some ⟨wr.heap.size, 0, none⟩) 1 1]).run Try.prog (wr.alloc (.cells #[.int .i64 (cnt : Int)] 3)).drew = .ok (.slice (some ⟨g, 0, none⟩) (c2 + 1) cap) W3 := hr3
                rw [show (distL ts c2).map (Value.int .i64) ++ [Value.int .i64 (cnt : Int)] = (distL ts (c2 + 1)).map (.int .i64) from by rw [distL_succ, List.map_append, hcnt]; rfl] at ho3
                have hO3 := hk3.heap (show wr.drew.heap[O]? = _ from hOw) (fun e => by have := (World.ownsRow.lt hvW O e.symm).1; omega)
                have n1 := hk3.heap (show wr.drew.heap[M]? = _ from hes) (fun e => by have := (hvl M e.symm).2; have := XhM.out; omega)
                have n0 := cells_of_block hO3 (i * 3 + 2) _ (by rw [← XhAl.out]; exact mid_at _ _ _ _ _)
                have n0f := box_free hO3 (i * 3 + 2)
                simp only [Nat.zero_add] at n0
                have hl4 := heap_lt hO3
                obtain ⟨W6, hW6⟩ : ∃ W6, W3.setCell ⟨O, i * 3 + 2, none⟩ (.slice (some ⟨g, 0, none⟩) (c2 + 1) cap) = W6 := ⟨_, rfl⟩
                have kS : Keep (fun b => b ≠ O) W3 W6 := by rw [← hW6]; exact Keep.setCell _ _ _ (by simp)
                have hO6 := set_at (i * 3 + 2) (.slice (some ⟨g, 0, none⟩) (c2 + 1) cap) hO3
                rw [hW6] at hO6
                simp only [List.setIfInBounds_toArray] at hO6
                rw [← XhAl.out, mid_set] at hO6
                have ho6 := own_kept ho3 kS (fun b hb => by have := (World.ownsRow.lt ho3 b hb).1; omega)
                have hK6 : Keep (fun b => b ≠ O ∧ b < B + 1) W2 W6 := ((((XhK2.out.trans (Xk4.out.mono fun _ _ _ => trivial)).trans (hK4.mono fun b _ h => by omega)).trans (Keep.drew _ _)).trans (hk3.mono fun b hb h e => by have := (World.ownsRow.lt hvW b e.symm).1; omega)).trans (kS.mono fun b _ h => h.1)
                have old3 : (wr.alloc (.cells #[.int .i64 (cnt : Int)] 3)).cell? ⟨O, i * 3 + 2, none⟩ = some (.slice av c2 cv) := old_cell y2 _
                have old4 : (wr.alloc (.cells #[.int .i64 (cnt : Int)] 3)).heap[M]? = some (.map es clk) := (Keep.alloc (fun _ => True) wr _).heap hes trivial
                clear hO3 ho3 hk3 kS hond hvW hOw hesz hes2 hcnt
                have XhK4 := Lib.hid hK4
                have Xkwk := Lib.hid kwk
                have XhO6 := Lib.hid hO6
                have Xho6 := Lib.hid ho6
                have XhK6 := Lib.hid hK6
                have Xhr3 := Lib.hid hr3
                have XhW6 := Lib.hid hW6
                have Xhvl := Lib.hid hvl
                clear hK4 kwk hO6 ho6 hK6 hr3 hW6 hvl
                go_wp2_with fail
                refine region_hoist rfl (fun W => W.cell? ⟨O, i * 3 + 2, none⟩ = some (.slice av c2 cv) ∧ W.heap[M]? = some (.map es clk)) [13] ?_
                have XhS0 := Lib.hid (And.intro y2 hes)
                refine hoist_take (i := 0) (v := ?_) rfl (by kernel_rfl) (by kernel_rfl) (by kernel_rfl) (by kernel_rfl) (fun _ _ _ h => h) XhS0.out (Or.inl ⟨by rfl, ?_⟩) ?_
                rotate_left
                · intro Wq hWq
                  obtain ⟨s0, s1⟩ := hWq
                  go_simp
                  try with_reducible rfl
                try simp only [Act.put, List.getElem_toArray, List.getElem_cons_zero, List.getElem_cons_succ, List.setIfInBounds_toArray, List.set_cons_zero, List.set_cons_succ]
                refine hoist_take (i := 1) (v := ?_) rfl (by kernel_rfl) (by kernel_rfl) (by kernel_rfl) (by kernel_rfl) (fun _ _ _ h => h) XhS0.out (Or.inl ⟨by rfl, ?_⟩) ?_
                rotate_left
                · intro Wq hWq
                  obtain ⟨s0, s1⟩ := hWq
                  go_simp
                  try with_reducible rfl
                try simp only [Act.put, List.getElem_toArray, List.getElem_cons_zero, List.getElem_cons_succ, List.setIfInBounds_toArray, List.set_cons_zero, List.set_cons_succ]
                refine hoist_take (i := 2) (v := ?_) rfl (by kernel_rfl) (by kernel_rfl) (by kernel_rfl) (by kernel_rfl) (fun _ _ _ h => h) XhS0.out (Or.inl ⟨by rfl, ?_⟩) ?_
                rotate_left
                · intro Wq hWq
                  obtain ⟨s0, s1⟩ := hWq
                  go_simp
                  try with_reducible rfl
                try simp only [Act.put, List.getElem_toArray, List.getElem_cons_zero, List.getElem_cons_succ, List.setIfInBounds_toArray, List.set_cons_zero, List.set_cons_succ]
                refine hoist_take (i := 3) (v := ?_) rfl (by kernel_rfl) (by kernel_rfl) (by kernel_rfl) (by kernel_rfl) (fun _ _ _ h => h) XhS0.out (Or.inl ⟨by rfl, ?_⟩) ?_
                rotate_left
                · intro Wq hWq
                  obtain ⟨s0, s1⟩ := hWq
                  go_simp
                  try with_reducible rfl
                try simp only [Act.put, List.getElem_toArray, List.getElem_cons_zero, List.getElem_cons_succ, List.setIfInBounds_toArray, List.set_cons_zero, List.set_cons_succ]
                refine hoist_take (i := 4) (v := ?_) rfl (by kernel_rfl) (by kernel_rfl) (by kernel_rfl) (by kernel_rfl) (fun _ _ _ h => h) XhS0.out (Or.inl ⟨by rfl, ?_⟩) ?_
                rotate_left
                · intro Wq hWq
                  obtain ⟨s0, s1⟩ := hWq
                  go_simp
                  try with_reducible rfl
                try simp only [Act.put, List.getElem_toArray, List.getElem_cons_zero, List.getElem_cons_succ, List.setIfInBounds_toArray, List.set_cons_zero, List.set_cons_succ]
                refine hoist_take (i := 5) (v := ?_) rfl (by kernel_rfl) (by kernel_rfl) (by kernel_rfl) (by kernel_rfl) (fun _ _ _ h => h) XhS0.out (Or.inl ⟨by rfl, ?_⟩) ?_
                rotate_left
                · intro Wq hWq
                  obtain ⟨s0, s1⟩ := hWq
                  go_simp
                  try with_reducible rfl
                try simp only [Act.put, List.getElem_toArray, List.getElem_cons_zero, List.getElem_cons_succ, List.setIfInBounds_toArray, List.set_cons_zero, List.set_cons_succ]
                refine hoist_take (i := 6) (v := ?_) rfl (by kernel_rfl) (by kernel_rfl) (by kernel_rfl) (by kernel_rfl) (fun _ _ _ h => h) XhS0.out (Or.inl ⟨by rfl, ?_⟩) ?_
                rotate_left
                · intro Wq hWq
                  obtain ⟨s0, s1⟩ := hWq
                  go_simp
                  try with_reducible rfl
                try simp only [Act.put, List.getElem_toArray, List.getElem_cons_zero, List.getElem_cons_succ, List.setIfInBounds_toArray, List.set_cons_zero, List.set_cons_succ]
                refine hoist_take (i := 7) (v := ?_) rfl (by kernel_rfl) (by kernel_rfl) (by kernel_rfl) (by kernel_rfl) (fun _ _ _ h => h) XhS0.out (Or.inl ⟨by rfl, ?_⟩) ?_
                rotate_left
                · intro Wq hWq
                  obtain ⟨s0, s1⟩ := hWq
                  go_simp
                  try with_reducible rfl
                try simp only [Act.put, List.getElem_toArray, List.getElem_cons_zero, List.getElem_cons_succ, List.setIfInBounds_toArray, List.set_cons_zero, List.set_cons_succ]
                refine hoist_one (i := 8) rfl (by kernel_rfl) (fun KK hKK => ?_)
                have XhR0 := Lib.hid hKK
                clear hKK
                simp only [List.getElem_toArray, List.getElem_cons_zero, List.getElem_cons_succ, Act.put, List.setIfInBounds_toArray, List.set_cons_zero, List.set_cons_succ, Nat.zero_add]
                go_wp2_with fail
                refine XhR0.out _ _ (fun _ => ⟨y2, hes⟩) ?_
                refine hoist_one (i := 9) rfl (by kernel_rfl) (fun KK hKK => ?_)
                have XhR1 := Lib.hid hKK
                clear hKK
                go_wp2_with fail
                refine XhR1.out _ _ (fun _ => ⟨old3, old4⟩) ?_
                refine hoist_one (i := 10) rfl (by kernel_rfl) (fun KK hKK => ?_)
                have XhR2 := Lib.hid hKK
                clear hKK
                simp only [List.getElem_toArray, List.getElem_cons_zero, List.getElem_cons_succ, Act.put, List.setIfInBounds_toArray, List.set_cons_zero, List.set_cons_succ]
                refine go_app (v := .slice av c2 cv) (u := .slice (some ⟨wr.heap.size, 0, none⟩) 1 1) (v' := .slice (some ⟨g, 0, none⟩) (c2 + 1) cap) (w' := W3) rfl (.tmp 65) (.tmp 68) 61 rfl rfl rfl Xhr3.out ?_
                go_wp2_with fail
                refine XhR2.out _ _ (fun _ => ⟨n0, n1⟩) ?_
                refine hoist_one (i := 11) rfl (by kernel_rfl) (fun KK hKK => ?_)
                have XhR3 := Lib.hid hKK
                clear hKK
                go_wp2_with fail
                refine XhR3.out _ _ (fun _ => ⟨n0, n1⟩) ?_
                refine hoist_one (i := 12) rfl (by kernel_rfl) (fun KK hKK => ?_)
                have XhR4 := Lib.hid hKK
                clear hKK
                go_wp2_with fail
                refine XhR4.out _ _ (fun _ => ⟨n0, n1⟩) ?_
                refine hoist_one (i := 13) rfl (by kernel_rfl) (fun KK hKK => ?_)
                have XhR5 := Lib.hid hKK
                clear hKK
                go_wp2_with fail
                refine XhR5.out _ _ (fun h => by simp at h) ?_
                refine hoist_done (by kernel_rfl) ?_
                clear XhS0 XhR0 XhR1 XhR2 XhR3 XhR4 XhR5 old3 old4 n0 n0f n1 y2 hes hlenr
                rw [XhW6.out]
                go_wp2_with fail
                go_roundw
                case rel => exact ⟨c2 + 1, _, by omega, by go_num, XhK6.out, XhO6.out, Xho6.out⟩
                case measure => simp [intOf]; omega
          · obtain rfl : c2 = t0.length := by omega
            have hlt20 : ¬ (t0.length : Int) < t0.length := by omega
            have hf := Xhfin.out wr va (hK2.mono fun b _ h => by omega) hOq (own_base2 hva (by omega))
            clear x2 f0
            have XhK2 := Lib.hid hK2
            have XhOq := Lib.hid hOq
            have Xhva := Lib.hid hva
            have Xhf := Lib.hid hf
            clear hK2 hOq hva hf
            go_wp2_with fail
            go_roundw
            case rel => exact Xhf.out
            case measure => simp [intOf]; omega
    · obtain rfl : i = rs.length := by omega
      rw [List.take_length] at hqs
      rw [Nat.sub_self, zeros, List.append_nil] at hOb
      have XhK := Lib.hid hK
      have XhOb := Lib.hid hOb
      have Xhrow := Lib.hid hrow
      have Xkw := Lib.hid kw
      have Xhqs := Lib.hid hqs
      clear hK hOb hrow kw hqs
      go_wp2_with fail
      refine bodyPost_ret (v := .slice (some ⟨O, 0, none⟩) rs.length rs.length) (by simp [results, Try.results26, go_sem]) rfl ?_
      refine ⟨_, rfl, ⟨qs, Xhqs.out, ⟨by rw [sizeC_len, hql]; simp, .inr ⟨O, rs.length, _, by simp, by have := XhO.out; omega, XhOb.out, by simp, Nat.le_trans hl (by decide), by rw [List.size_toArray, sizeC_len, hql], ?_⟩⟩, fun q hq => own_base2 (Xhrow.out q hq) (by have := XhO.out; omega)⟩, Xkw.out.mono fun b _ h => by have := XhO.out; omega⟩
      exact List.take_of_length_le (by show (qs.flatMap sizeC).length ≤ _; rw [sizeC_len, hql]; simp)
end Go.Proofs
