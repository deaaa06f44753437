/- Layer 16 (plan): the sizes of relations, the document's. -/
import Derived.Test.YtichfebfcapnhaaProg
import Derived.Test.YtichfebfcapnhaaPoEToPpA
import Derived.Test.YtichfebfcapnhaaPnJ
import Derived.Test.YtichfebfcapnhaaPnTToPnU
import Derived.Test.YtichfebfcapnhaaPnX
import Derived.Test.YtichfebfcapnhaaOwnToRowC
import Derived.Deep.DeepCutAuto
import Derived.Deep.RegionHeld3
import Derived.BigQuiet
namespace Go.Proofs
open Go.RowKit Go.Ink
set_option linter.unusedVariables false
set_option linter.unusedSimpArgs false
attribute [local go_sem] Oper.semAt_some

theorem el_sizes : ElemOf Try.prog 29 63 3 48 := elem_of (z := .agg #[.string ⟨#[]⟩, .int .i64 0, .slice none 0 0]) (by kernel_rfl) (by kernel_rfl) rfl (by decide) (by decide)
set_option maxRecDepth 100000 in
set_option maxHeartbeats 2000000 in
theorem refSizes_any (n : Nat) (rs : List RelaD) (v : Value) (w : World) (hr : RelasIn n w v rs) (hn : n ≤ w.heap.size) :
    Calls Try.prog 27 #[v] w fun e w' => ∃ sv, e = .returned sv ∧ SizesOwn w.heap.size w' sv (rs.map sizeD) ∧ Keep (fun b => b < w.heap.size) w w' := by
  obtain ⟨a, c, rfl, hl, hcap, hel⟩ := id hr
  obtain ⟨O, hO⟩ : ∃ O, w.heap.size = O := ⟨_, rfl⟩
  have Xhel := Lib.hid hel
  have XhO := Lib.hid hO
  have Xhr := Lib.hid hr
  clear hel hO hr
  go_enter Try.func27, Try.ntmps27
  go_wp2_with fail
  go_loopw [3, 4] (fun v i' wr => ∃ (i : Nat) (qs : List (SizeD × Value)), i ≤ rs.length ∧ i' = .int .i64 (i : Int) ∧ Keep (fun b => b < O) w wr ∧ qs.map (·.1) = (rs.take i).map sizeD ∧
    wr.ownsRow O 63 3 v i (qs.flatMap sizeC) ∧ ∀ q, q ∈ qs → wr.ownsRow O 3 1 q.2 q.1.dist.length (q.1.dist.map (.int .i64))) (fun _ i _ => rs.length - (intOf i).toNat)
  case atStart => exact ⟨0, [], by omega, rfl, Keep.refl _ _, rfl, World.ownsRow_nil _ _ _ _, fun q hq => by cases hq⟩
  case round =>
    obtain ⟨i, qs, hi, rfl, hK, hqs, hOb, hrow⟩ := hrel
    have hsz := hK.size
    have hql : qs.length = i := by
      have := congrArg List.length hqs
      simp only [List.length_map, List.length_take] at this
      omega
    by_cases hlt : i < rs.length
    · have hlt1 : (i : Int) < rs.length := by omega
      have hi0 : (0 : Int) ≤ i := by omega
      obtain ⟨r, hr0⟩ : ∃ x, rs[i]? = some x := ⟨_, List.getElem?_eq_getElem hlt⟩
      obtain ⟨b4, o4, rfl, hb4, tv, hcl, htv⟩ := Xhel.out i r hr0
      have hb4O : b4 < O := by have := XhO.out; omega
      have hb4w : b4 < wr.heap.size := by have := XhO.out; omega
      have kc := fun W (hk : Keep (fun b => b < O) w W) => And.intro (hk.cell (hcl 0 _ rfl) hb4O) (hk.cell (hcl 2 _ rfl) hb4O)
      simp only [Nat.add_zero] at kc
      obtain ⟨d0, d2⟩ := kc wr hK
      obtain ⟨at0, ct, rfl, hlt0, hct, het⟩ := id htv
      obtain ⟨pr, ar, ts⟩ := r
      simp only at d0 d2 hlt0 hct het kc ⊢
      clear hcl
      have XhK := Lib.hid hK
      have XhOb := Lib.hid hOb
      have Xhrow := Lib.hid hrow
      have Xhqs := Lib.hid hqs
      have Xhtv := Lib.hid htv
      have Xhr0 := Lib.hid hr0
      have Xkc := Lib.hid kc
      have Xhet := Lib.hid het
      clear hK hOb hrow hqs htv hr0 kc het
      go_upto_region 5 with fail
      go_region
      obtain ⟨W2, hW2⟩ : ∃ W, (wr.alloc (.cells #[.string pr, .int .i64 (ts.length : Int), .slice none 0 0] 63)).drew = W := ⟨_, rfl⟩
      have k2 : Keep (fun _ => True) wr W2 := by rw [← hW2]; exact (Keep.alloc _ _ _).trans (Keep.drew _ _)
      have hB2 : W2.heap[wr.heap.size]? = some (.cells #[.string pr, .int .i64 (ts.length : Int), .slice none 0 0] 63 (0, 0)) := by rw [← hW2]; exact new_block _ _
      have z2 : W2.heap.size = wr.heap.size + 1 := by rw [← hW2]; simp
      rw [hW2]
      clear hW2
      obtain ⟨B, hB⟩ : ∃ B, wr.heap.size = B := ⟨_, rfl⟩
      rw [hB] at hB2 z2 ⊢
      have kw2 : Keep (fun b => b < O) w W2 := XhK.out.trans (k2.mono fun _ _ _ => trivial)
      have hOB : O ≤ B := by have := XhO.out; omega
      have x1 := cells_of_block hB2 1 _ rfl
      simp only [Nat.zero_add] at x1
      obtain ⟨e0, e2⟩ := Xkc.out W2 kw2
      have hBl : B < W2.heap.size := by omega
      clear d0 d2
      have Xk2 := Lib.hid k2
      have XhB2 := Lib.hid hB2
      have Xkw2 := Lib.hid kw2
      have XhB := Lib.hid hB
      clear k2 hB2 kw2 hB
      go_upto_if 31 with fail
      go_cut [6] from 11 to 93 (fun c wx => c = .int .i64 (wideD ts : Int) ∧ wx = W2)
      case first =>
        by_cases htn : ts.length = 0
        · have hw0 : wideD ts = 0 := by rw [List.eq_nil_of_length_eq_zero htn]; rfl
          have hg : ¬ ((0 : Int) < (ts.length : Int)) := by omega
          have Xhw0 := Lib.hid hw0
          clear hw0
          go_wp2_with fail
          go_meet
          exact ⟨by rw [Xhw0.out]; rfl, rfl⟩
        · have hg : (0 : Int) < (ts.length : Int) := by omega
          have hgn : 0 < ts.length := by omega
          have hne : ts ≠ [] := fun h => htn (by rw [h]; rfl)
          obtain ⟨t0, ht0⟩ : ∃ t, ts[0]? = some t := ⟨_, List.getElem?_eq_getElem (by omega)⟩
          obtain ⟨bt, ot, rfl, hbt, s0, hs0, hss0⟩ := Xhet.out 0 t0 ht0
          have hwide : wideD ts = t0.length := by unfold wideD; rw [List.getD_eq_getElem?_getD, ht0]; rfl
          have hbtO : bt < O := by have := XhO.out; omega
          have f0 := Xkw2.out.cell hs0 hbtO
          simp only [Nat.zero_mul, Nat.add_zero] at f0
          obtain ⟨as0, cs0, rfl, hl0, -, -⟩ := id hss0
          have hbtw : bt < W2.heap.size := by omega
          clear hs0 hss0
          have Xhwide := Lib.hid hwide
          have Xht0 := Lib.hid ht0
          clear hwide ht0
          go_wp2_with fail
          go_meet
          exact ⟨by rw [Xhwide.out], rfl⟩
      case rest =>
        obtain ⟨rfl, hwc⟩ := hcut
        subst hwc
        have hwdl : wideD ts ≤ 1073741824 := by
          cases h0 : ts[0]? with
          | none =>
            have : wideD ts = 0 := by unfold wideD; rw [List.getD_eq_getElem?_getD, h0]; rfl
            omega
          | some t =>
            obtain ⟨_, _, _, _, _, _, hss⟩ := Xhet.out 0 t h0
            obtain ⟨_, _, _, hl0, _⟩ := hss
            have : wideD ts = t.length := by unfold wideD; rw [List.getD_eq_getElem?_getD, h0]; rfl
            omega
        have hqs2 : ∀ va : Value, (qs ++ [(sizeD ⟨pr, ar, ts⟩, va)]).map (·.1) = (rs.take (i + 1)).map sizeD := fun va => by
          rw [List.map_append, Xhqs.out, List.take_add_one, Xhr0.out]; simp
        have hsd : (sizeD ⟨pr, ar, ts⟩).dist = distL ts (wideD ts) := rfl
        obtain ⟨wd, hwd⟩ : ∃ n, wideD ts = n := ⟨_, rfl⟩
        rw [hwd] at hwdl hsd ⊢
        have hsc : ∀ va : Value, sizeC (sizeD ⟨pr, ar, ts⟩, va) = [.string pr, .int .i64 (ts.length : Int), va] := fun _ => rfl
        have hBe := XhB.out
        obtain ⟨Wr, hWr⟩ : ∃ W, W = wr := ⟨_, rfl⟩
        subst hWr
        clear x1 e0 e2
        have Xhwd := Lib.hid hwd
        have Xhqs2 := Lib.hid hqs2
        have Xhsd := Lib.hid hsd
        have Xhsc := Lib.hid hsc
        have XhBe := Lib.hid hBe
        clear hwd hqs2 hsd hsc hBe
        go_wp2_with fail
        go_loopw [7] (fun i' wq => ∃ (c : Nat) (va : Value), c ≤ wd ∧ i' = .int .i64 (c : Int) ∧ Keep (fun b => b < B) wc wq ∧
          wq.heap[B]? = some (.cells #[.string pr, .int .i64 (ts.length : Int), va] 63 (0, 0)) ∧ wq.ownsRow (B + 1) 3 1 va c ((distL ts c).map (.int .i64))) (fun i _ => wd - (intOf i).toNat)
        case atStart => exact ⟨0, _, by omega, rfl, Keep.refl _ _, XhB2.out, World.ownsRow_nil _ _ _ _⟩
        case round =>
          obtain ⟨c2, va, hc2, rfl, hK2, hBq, hva⟩ := hrel
          have hsz2 := hK2.size
          have kwq : Keep (fun b => b < O) w wr := Xkw2.out.trans (hK2.mono fun b _ h => by omega)
          have hBl3 := heap_lt hBq
          by_cases hlt2 : c2 < wd
          · have hlt21 : (c2 : Int) < wd := by omega
            have hc20 : (0 : Int) ≤ c2 := by omega
            have XhK2 := Lib.hid hK2
            have XhBq := Lib.hid hBq
            have Xhva := Lib.hid hva
            have Xkwq := Lib.hid kwq
            clear hK2 hBq hva kwq
            go_wp2_with fail
            obtain ⟨Wq, hWq⟩ : ∃ W, W = wr := ⟨_, rfl⟩
            subst hWq
            obtain ⟨M, hM⟩ : ∃ M, Wq.heap.size = M := ⟨_, rfl⟩
            have hBM : B < M := by omega
            have XhM := Lib.hid hM
            clear hM
            go_loopw [8, 9] (fun sv k' wk => ∃ k : Nat, k ≤ ts.length ∧ k' = .int .i64 (k : Int) ∧ Keep (fun b => b < M) Wq wk ∧ wk.ownsRow M 9 1 sv (onceL (colL (ts.take k) c2)).length ((onceL (colL (ts.take k) c2)).map .string)) (fun _ i _ => ts.length - (intOf i).toNat)
            case atStart => exact ⟨0, by omega, rfl, Keep.refl _ _, World.ownsRow_nil _ _ _ _⟩
            case round =>
              obtain ⟨k, hk, rfl, hK4, hS⟩ := hrel
              have hsz4 := hK4.size
              have kwk : Keep (fun b => b < O) w wr := Xkwq.out.trans (hK4.mono fun b _ h => by omega)
              obtain ⟨e0, e2⟩ := Xkc.out wr kwk
              have hb4k : b4 < wr.heap.size := by have := XhO.out; have := XhM.out; omega
              have hol : (onceL (colL (ts.take k) c2)).length ≤ ts.length := Nat.le_trans (onceL_len _) (Nat.le_trans (colL_len _ _) (by rw [List.length_take]; omega))
              by_cases hlt4 : k < ts.length
              · have hlt41 : (k : Int) < ts.length := by omega
                have hk0 : (0 : Int) ≤ k := by omega
                obtain ⟨t, ht⟩ : ∃ t, ts[k]? = some t := ⟨_, List.getElem?_eq_getElem hlt4⟩
                obtain ⟨bt, ot, rfl, hbt, sv, hsv, hss⟩ := Xhet.out k t ht
                have hbtO : bt < O := by have := XhO.out; omega
                have f1 := kwk.cell hsv hbtO
                simp only [Nat.mul_one] at f1
                obtain ⟨ast, cst, rfl, hlst, -, hest⟩ := id hss
                have hsn := colL_snoc ht c2
                have hbtk : bt < wr.heap.size := by have := XhO.out; omega
                by_cases hct2 : c2 < t.length
                · have hct21 : (c2 : Int) < t.length := by omega
                  obtain ⟨x, hx⟩ : ∃ x, t[c2]? = some x := ⟨_, List.getElem?_eq_getElem hct2⟩
                  obtain ⟨bs, os, rfl, hbs, q0⟩ := hest c2 x hx
                  have f2 := kwk.cell q0 (show bs < O by have := XhO.out; omega)
                  simp only [Nat.mul_one] at f2
                  have hbsw : bs < wr.heap.size := by have := XhO.out; omega
                  rw [hx, Option.toList_some] at hsn
                  have hon := onceL_snoc (colL (ts.take k) c2) x
                  rw [← hsn] at hon
                  have hct := refIn_any wr.heap.size u8 (onceL (colL (ts.take k) c2)) x wr (own_strs hS (by omega)) (Nat.le_refl _)
                  obtain ⟨bi, hbi⟩ : ∃ b, decide (x ∈ onceL (colL (ts.take k) c2)) = b := ⟨_, rfl⟩
                  rw [hbi] at hct
                  cases bi
                  · rw [if_neg (of_decide_eq_false hbi)] at hon
                    obtain ⟨v', W3, hr3, ho3, hk3, g, cap, hv3, hg3, hl3'⟩ := app1 (P := Try.prog) el_strs 71 hS [.string x] rfl (by simp [Value.oneCell']) (by omega) (by have := XhM.out; omega)
                    subst hv3
                    have hln : (onceL (colL (ts.take k) c2)).length + 1 = (onceL (colL (ts.take (k + 1)) c2)).length := by rw [hon, List.length_append]; rfl
                    rw [hln] at hr3 ho3
                    rw [show (onceL (colL (ts.take k) c2)).map Value.string ++ [Value.string x] = (onceL (colL (ts.take (k + 1)) c2)).map .string from by rw [hon, List.map_append]; rfl] at ho3
                    have hK3 : Keep (fun b => b < M) Wq W3 := hK4.trans (hk3.mono fun b hb h e => by have := (World.ownsRow.lt hS b e.symm).1; omega)
                    clear hsv hss hest q0 hx ht hbi hk3 hS hsn hon
                    have XhK4 := Lib.hid hK4
                    have Xkwk := Lib.hid kwk
                    have Xhr3 := Lib.hid hr3
                    have XhK3 := Lib.hid hK3
                    have Xho3 := Lib.hid ho3
                    have Xhct := Lib.hid hct
                    clear hK4 kwk hr3 hK3 ho3 hct
                    go_wp2_with fail
                    refine Xhct.out.mono ?_
                    rintro e w9 ⟨rfl, hw9⟩; have hw9 := hw9.symm; subst hw9
                    go_wp2_with (at_builtin; refine go_app (v := u8) (u := .slice (some ⟨wr.heap.size, 0, none⟩) 1 1) (v' := .slice (some ⟨g, 0, none⟩) (onceL (colL (ts.take (k + 1)) c2)).length cap) (w' := W3) rfl (.tmp 76) (.tmp 81) 71 rfl rfl rfl Xhr3.out ?_)
                    go_roundw
                    case rel => exact ⟨k + 1, by omega, by go_num, XhK3.out, Xho3.out⟩
                    case measure => simp [intOf]; omega
                  · rw [if_pos (of_decide_eq_true hbi)] at hon
                    rw [← hon] at hS
                    clear hsv hss hest q0 hx ht hbi hsn hon
                    have XhK4 := Lib.hid hK4
                    have Xkwk := Lib.hid kwk
                    have XhS := Lib.hid hS
                    have Xhct := Lib.hid hct
                    clear hK4 kwk hS hct
                    go_wp2_with fail
                    refine Xhct.out.mono ?_
                    rintro e w9 ⟨rfl, hw9⟩; have hw9 := hw9.symm; subst hw9
                    go_wp2_with fail
                    go_roundw
                    case rel => exact ⟨k + 1, by omega, by go_num, XhK4.out, XhS.out⟩
                    case measure => simp [intOf]; omega
                · have hno : t[c2]? = none := List.getElem?_eq_none (by omega)
                  rw [hno] at hsn
                  simp only [Option.toList_none, List.append_nil] at hsn
                  rw [← hsn] at hS
                  have hct21 : ¬ (c2 : Int) < t.length := by omega
                  clear hsv hss hest hno ht hsn
                  have XhK4 := Lib.hid hK4
                  have Xkwk := Lib.hid kwk
                  have XhS := Lib.hid hS
                  clear hK4 kwk hS
                  go_wp2_with fail
                  go_roundw
                  case rel => exact ⟨k + 1, by omega, by go_num, XhK4.out, XhS.out⟩
                  case measure => simp [intOf]; omega
              · obtain rfl : k = ts.length := by omega
                rw [List.take_length] at hS
                have hlt40 : ¬ (ts.length : Int) < ts.length := by omega
                obtain ⟨asv, csv, rfl⟩ := own_form hS
                obtain ⟨av, cv, rfl⟩ := own_form Xhva.out
                obtain ⟨cnt, hcnt⟩ : ∃ c, countC ts c2 = c := ⟨_, rfl⟩
                have hcnt2 : (onceL (colL ts c2)).length = cnt := hcnt
                rw [hcnt2]
                have hvl := World.ownsRow.lt Xhva.out
                have hvW := own_kept Xhva.out hK4 (fun b hb => by have := (hvl b hb).2; have := XhM.out; omega)
                have hBw := hK4.heap XhBq.out (show B < M by omega)
                have y2 := cells_of_block hBw 2 _ rfl
                simp only [Nat.zero_add] at y2
                obtain ⟨v', W3, hr3, ho3, hk3, g, cap, hv3, hg3, hl3'⟩ := app1 (P := Try.prog) el_ints 61 hvW [.int .i64 (cnt : Int)] rfl (by simp [Value.oneCell']) (by omega) (by omega)
                subst hv3
                rw [show (distL ts c2).map (Value.int .i64) ++ [Value.int .i64 (cnt : Int)] = (distL ts (c2 + 1)).map (.int .i64) from by rw [distL_succ, List.map_append, hcnt]; rfl] at ho3
                have hB3 := hk3.heap hBw (fun e => by have := (World.ownsRow.lt hvW B e.symm).1; omega)
                have n2 := cells_of_block hB3 2 _ rfl
                have n2f := box_free hB3 2
                simp only [Nat.zero_add] at n2
                have hl4 := heap_lt hB3
                obtain ⟨W6, hW6⟩ : ∃ W6, W3.setCell ⟨B, 2, none⟩ (.slice (some ⟨g, 0, none⟩) (c2 + 1) cap) = W6 := ⟨_, rfl⟩
                have kS : Keep (fun b => b ≠ B) W3 W6 := by rw [← hW6]; exact Keep.setCell _ _ _ (by simp)
                have hB6 := set_at 2 (.slice (some ⟨g, 0, none⟩) (c2 + 1) cap) hB3
                rw [hW6] at hB6
                simp only [List.setIfInBounds_toArray, List.set_cons_succ, List.set_cons_zero] at hB6
                have ho6 := own_kept ho3 kS (fun b hb => by have := (World.ownsRow.lt ho3 b hb).1; omega)
                have hK6 : Keep (fun b => b < B) wc W6 := ((XhK2.out.trans (hK4.mono fun b _ h => by omega)).trans (hk3.mono fun b hb h e => by have := (World.ownsRow.lt hvW b e.symm).1; omega)).trans (kS.mono fun b _ h => by omega)
                clear hB3 ho3 hk3 kS hvW hBw hcnt hS
                have XhK4 := Lib.hid hK4
                have Xkwk := Lib.hid kwk
                have XhB6 := Lib.hid hB6
                have Xho6 := Lib.hid ho6
                have XhK6 := Lib.hid hK6
                have Xhr3 := Lib.hid hr3
                have XhW6 := Lib.hid hW6
                have Xhvl := Lib.hid hvl
                have Xhcnt2 := Lib.hid hcnt2
                clear hK4 kwk hB6 ho6 hK6 hr3 hW6 hvl hcnt2
                go_wp2_with (at_builtin; refine go_app (v := .slice av c2 cv) (u := .slice (some ⟨wr.heap.size, 0, none⟩) 1 1) (v' := .slice (some ⟨g, 0, none⟩) (c2 + 1) cap) (w' := W3) rfl (.tmp 84) (.tmp 87) 61 rfl rfl rfl Xhr3.out ?_)
                rw [XhW6.out]
                rw [show Value.int .i64 ((c2 : Int) + 1) = .int .i64 ((c2 + 1 : Nat) : Int) from rfl]
                exact ⟨⟨c2 + 1, _, by omega, rfl, XhK6.out, XhB6.out, Xho6.out⟩, by simp [intOf]; omega⟩
          · have hcw : wd = c2 := by omega
            subst hcw
            have hlt20 : ¬ (wd : Int) < wd := by omega
            obtain ⟨av, cv, rfl⟩ := own_form hva
            have y0 := cells_of_block hBq 0 _ rfl
            have y1 := cells_of_block hBq 1 _ rfl
            have y2 := cells_of_block hBq 2 _ rfl
            simp only [Nat.zero_add] at y0 y1 y2
            have hObw := own_kept (own_kept XhOb.out Xk2.out (fun _ _ => trivial)) hK2 (fun b hb => by have := (World.ownsRow.lt XhOb.out b hb).2; have := XhBe.out; omega)
            have hrowW : ∀ q, q ∈ qs → wr.ownsRow O 3 1 q.2 q.1.dist.length (q.1.dist.map (.int .i64)) := fun q hq => own_kept (own_kept (Xhrow.out q hq) Xk2.out (fun _ _ => trivial)) hK2 (fun b hb => by have := (World.ownsRow.lt (Xhrow.out q hq) b hb).2; have := XhBe.out; omega)
            obtain ⟨v', W3, hr3, ho3, hk3, g, cap, hv3, hg3, hl3'⟩ := app1 (P := Try.prog) el_sizes 29 hObw [.string pr, .int .i64 (ts.length : Int), .slice av wd cv] rfl (by simp [Value.oneCell']) (by omega) (by omega)
            subst hv3
            have hrel : ∃ (i1 : Nat) (qs : List (SizeD × Value)), i1 ≤ rs.length ∧ Value.int .i64 ((i + 1 : Nat) : Int) = .int .i64 (i1 : Int) ∧ Keep (fun b => b < O) w W3 ∧ qs.map (·.1) = (rs.take i1).map sizeD ∧
                W3.ownsRow O 63 3 (.slice (some ⟨g, 0, none⟩) (i + 1) cap) i1 (qs.flatMap sizeC) ∧ ∀ q, q ∈ qs → W3.ownsRow O 3 1 q.2 q.1.dist.length (q.1.dist.map (.int .i64)) := by
              refine ⟨i + 1, qs ++ [(sizeD ⟨pr, ar, ts⟩, .slice av wd cv)], by omega, rfl, kwq.trans (hk3.mono fun b hb h e => by have := (World.ownsRow.lt hObw b e.symm).1; omega), Xhqs2.out _, ?_, ?_⟩
              · rw [List.flatMap_append]
                show W3.ownsRow O _ 3 _ _ (qs.flatMap sizeC ++ (sizeC (sizeD ⟨pr, ar, ts⟩, .slice av wd cv) ++ []))
                rw [List.append_nil, Xhsc.out]; exact ho3
              · intro q hq
                rcases List.mem_append.1 hq with hq | hq
                · exact own_kept (hrowW q hq) hk3 (fun b hb e => by
                    obtain ⟨cs, h1⟩ := own_typed (hrowW q hq) hb
                    obtain ⟨cs', h2⟩ := own_typed hObw e.symm
                    rw [h1] at h2; cases h2)
                · simp only [List.mem_cons, List.not_mem_nil, or_false] at hq
                  subst hq
                  show W3.ownsRow O 3 1 (.slice av wd cv) (sizeD ⟨pr, ar, ts⟩).dist.length ((sizeD ⟨pr, ar, ts⟩).dist.map (.int .i64))
                  rw [Xhsd.out, distL_len]
                  exact own_base2 (own_kept hva hk3 (fun b hb e => by
                    obtain ⟨cs, h1⟩ := own_typed hva hb
                    obtain ⟨cs', h2⟩ := own_typed hObw e.symm
                    rw [h1] at h2; cases h2)) (show O ≤ B + 1 by omega)
            clear hk3 ho3 hObw hrowW
            have XhK2 := Lib.hid hK2
            have XhBq := Lib.hid hBq
            have Xhva := Lib.hid hva
            have Xkwq := Lib.hid kwq
            have Xhr3 := Lib.hid hr3
            have Xhrel := Lib.hid hrel
            clear hK2 hBq hva kwq hr3 hrel
            go_wp2_with (at_builtin; refine go_app (v := u3) (u := .slice (some ⟨wr.heap.size, 0, none⟩) 1 1) (v' := .slice (some ⟨g, 0, none⟩) (i + 1) cap) (w' := W3) rfl (.tmp 90) (.tmp 92) 29 rfl rfl rfl Xhr3.out ?_)
            rw [show Value.int .i64 ((i : Int) + 1) = .int .i64 ((i + 1 : Nat) : Int) from rfl]
            exact ⟨Xhrel.out, by simp [intOf]; omega⟩
    · obtain rfl : i = rs.length := by omega
      rw [List.take_length] at hqs
      have hlt0 : ¬ (rs.length : Int) < rs.length := by omega
      have XhK := Lib.hid hK
      have XhOb := Lib.hid hOb
      have Xhrow := Lib.hid hrow
      have Xhqs := Lib.hid hqs
      clear hK hOb hrow hqs
      go_wp2_with fail
      refine bodyPost_ret (v := u3) (by simp [results, Try.results27, go_sem]) rfl ?_
      rw [XhO.out]
      exact ⟨_, rfl, ⟨qs, Xhqs.out, by rw [List.length_map]; exact XhOb.out, Xhrow.out⟩, XhK.out⟩
end Go.Proofs

/- Layer 16 (plan): the document's SameSizes, of lists that are the same. -/
namespace Go.Proofs
open Go.RowKit Go.Ink
set_option linter.unusedVariables false
set_option linter.unusedSimpArgs false
attribute [local go_sem] Oper.semAt_some

set_option maxRecDepth 100000 in
set_option maxHeartbeats 2000000 in
theorem sameSizes_eq (n : Nat) (va vb : Value) (ss : List SizeD) (w : World) (ha : SizesIn n w va ss) (hb : SizesIn n w vb ss) (hn : n ≤ w.heap.size) :
    Calls Try.prog 28 #[va, vb] w fun e w' => e = .returned (.bool true) ∧ Keep (fun _ => True) w w' := by
  obtain ⟨aa, ca, rfl, hla, hca, hea⟩ := id ha
  obtain ⟨ab, cb, rfl, hlb, hcb, heb⟩ := id hb
  have Xhea := Lib.hid hea
  have Xheb := Lib.hid heb
  have Xha := Lib.hid ha
  have Xhb := Lib.hid hb
  clear hea heb ha hb
  go_enter Try.func28, Try.ntmps28
  go_wp2_with fail
  go_loopw [5] (fun i' wr => ∃ k : Nat, k ≤ ss.length ∧ i' = .int .i64 (k : Int) ∧ Keep (fun _ => True) w wr) (fun i _ => ss.length - (intOf i).toNat)
  case atStart => exact ⟨0, by omega, rfl, Keep.refl _ _⟩
  case round =>
    obtain ⟨k, hk, rfl, hK⟩ := hrel
    have hsz := hK.size
    by_cases hlt : k < ss.length
    · have hlt1 : (k : Int) < ss.length := by omega
      have hk0 : (0 : Int) ≤ k := by omega
      obtain ⟨x, hx⟩ : ∃ x, ss[k]? = some x := ⟨_, List.getElem?_eq_getElem hlt⟩
      obtain ⟨b4, o4, rfl, hb4, dv, hc4, hd4⟩ := Xhea.out k x hx
      obtain ⟨b5, o5, rfl, hb5, ev, hc5, hd5⟩ := Xheb.out k x hx
      have a0 := hK.cell (hc4 0 _ rfl) trivial
      have a1 := hK.cell (hc4 1 _ rfl) trivial
      have a2 := hK.cell (hc4 2 _ rfl) trivial
      have e0 := hK.cell (hc5 0 _ rfl) trivial
      have e1 := hK.cell (hc5 1 _ rfl) trivial
      have e2 := hK.cell (hc5 2 _ rfl) trivial
      simp only [Nat.add_zero] at a0 e0
      have hb4w : b4 < wr.heap.size := by omega
      have hb5w : b5 < wr.heap.size := by omega
      have hsi := refSameInts_any n dv ev x.dist x.dist wr.drew (ints_kept hd4 ((hK.trans (Keep.drew _ _)).mono fun _ _ _ => trivial)) (ints_kept hd5 ((hK.trans (Keep.drew _ _)).mono fun _ _ _ => trivial)) (by simp; omega)
      rw [decide_eq_true (rfl : x.dist = x.dist)] at hsi
      obtain ⟨ad, cd, rfl, -, -, -⟩ := id hd4
      obtain ⟨ae, ce, rfl, -, -, -⟩ := id hd5
      obtain ⟨p, hp⟩ : ∃ p, x.pred = p := ⟨_, rfl⟩
      obtain ⟨rw', hrw⟩ : ∃ p, x.rows = p := ⟨_, rfl⟩
      rw [hp] at a0 e0
      rw [hrw] at a1 e1
      have hpp : (p != p) = false := by simp
      have hrr : (rw' != rw') = false := by simp
      clear hc4 hc5 hd4 hd5 hx hp hrw
      have XhK := Lib.hid hK
      have Xhsi := Lib.hid hsi
      clear hK hsi
      go_wp2_with fail
      go_region_held3 (fun W => W.cell? ⟨b4, o4 + k * 3, none⟩ = some (.string p) ∧ W.cell? ⟨b4, o4 + k * 3 + 1, none⟩ = some (.int .i64 rw') ∧ W.cell? ⟨b4, o4 + k * 3 + 2, none⟩ = some (.slice ad x.dist.length cd) ∧ W.cell? ⟨b5, o5 + k * 3, none⟩ = some (.string p) ∧ W.cell? ⟨b5, o5 + k * 3 + 1, none⟩ = some (.int .i64 rw') ∧ W.cell? ⟨b5, o5 + k * 3 + 2, none⟩ = some (.slice ae x.dist.length ce))
        (first | (refine ⟨?_, ?_, ?_, ?_, ?_, ?_⟩ <;> assumption) | go_keep)
        ((go_at_call 35; refine Xhsi.out.mono ?_; rintro e w2 ⟨rfl, hq⟩; have a0' := hq.cell a0 trivial; have a1' := hq.cell a1 trivial; have a2' := hq.cell a2 trivial; have e0' := hq.cell e0 trivial; have e1' := hq.cell e1 trivial; have e2' := hq.cell e2 trivial; clear a0 a1 a2 e0 e1 e2))
      have kq : Keep (fun _ => True) w w2 := (XhK.out.trans (Keep.drew _ _)).trans hq
      clear hq a0' a1' a2' e0' e1' e2'
      have Xkq := Lib.hid kq
      clear kq
      go_wp2_with fail
      go_roundw
      case rel => exact ⟨k + 1, by omega, by go_num, Xkq.out⟩
      case measure => simp [intOf]; omega
    · obtain rfl : k = ss.length := by omega
      have hlt0 : ¬ (ss.length : Int) < ss.length := by omega
      have XhK := Lib.hid hK
      clear hK
      go_wp2_with fail
      refine bodyPost_ret (v := .bool true) (by simp [results, Try.results28, go_sem]) rfl ?_
      exact ⟨rfl, XhK.out⟩
end Go.Proofs

/- Layer 16 (plan): sizes that are written over: what stays of their memory's form. -/
namespace Go.Proofs
open Go.RowKit Go.Ink
set_option linter.unusedVariables false
set_option linter.unusedSimpArgs false

/-- a row of at least l ints -/
def HasInts (w : World) (v : Value) (lo hi l : Nat) : Prop := ∃ a c, v = .slice a l c ∧ (0 < l → ∃ g cs, a = some ⟨g, 0, none⟩ ∧ lo ≤ g ∧ g < hi ∧ w.heap[g]? = some (.cells cs 3 (0, 0)) ∧ l ≤ cs.size)
theorem HasInts.set {w : World} {v : Value} {lo hi l : Nat} (h : HasInts w v lo hi l) (b j : Nat) (u : Value) : HasInts (w.setCell ⟨b, j, none⟩ u) v lo hi l := by
  obtain ⟨a, c, rfl, h⟩ := h
  refine ⟨a, c, rfl, fun hl => ?_⟩
  obtain ⟨g, cs, ha, h1, h2, hg, hs⟩ := h hl
  by_cases hb : g = b
  · subst hb
    exact ⟨g, _, ha, h1, h2, set_at j u hg, by simpa using hs⟩
  · exact ⟨g, cs, ha, h1, h2, (show Keep (fun b' => b' ≠ b) w _ from Keep.setCell _ _ _ (by simp)).heap hg hb, hs⟩
theorem own_hasInts {base : Nat} {w : World} {v : Value} {l : Nat} {xs : List Int} (h : w.ownsRow base 3 1 v l (xs.map (.int .i64))) : HasInts w v base w.heap.size l := by
  rcases h.2 with ⟨rfl, h0⟩ | ⟨g, cap, cur, rfl, hb, hg, hnc, hcm, hcs, _⟩
  · subst h0; exact ⟨none, 0, rfl, fun h => by omega⟩
  · exact ⟨_, cap, rfl, fun _ => ⟨g, cur, rfl, hb, heap_lt hg, hg, by omega⟩⟩
/-- a row of sizes whose numbers may be anything -/
def Loose (w : World) (v : Value) (lo hi : Nat) (dvs : List (Value × Nat)) : Prop :=
  ∃ a c, v = .slice a dvs.length c ∧ ((0 < dvs.length → ∃ g cs, a = some ⟨g, 0, none⟩ ∧ lo ≤ g ∧ g < hi ∧ w.heap[g]? = some (.cells cs 63 (0, 0)) ∧ dvs.length * 3 ≤ cs.size ∧ ∀ i d, dvs[i]? = some d → cs[i * 3 + 2]? = some d.1) ∧ ∀ d, d ∈ dvs → HasInts w d.1 lo hi d.2)
theorem Loose.set_row {w : World} {n c lo hi : Nat} {dvs : List (Value × Nat)} {g : Nat} (h : Loose w (.slice (some ⟨g, 0, none⟩) n c) lo hi dvs) (i : Nat) (u : Value) : Loose (w.setCell ⟨g, i * 3 + 1, none⟩ u) (.slice (some ⟨g, 0, none⟩) n c) lo hi dvs := by
  obtain ⟨a, c', hv, h1, h2⟩ := h
  refine ⟨a, c', hv, fun hl => ?_, fun d hd => (h2 d hd).set _ _ _⟩
  obtain ⟨g', cs, rfl, l1, l2, hg, hs, hc⟩ := h1 hl
  cases hv
  refine ⟨g, _, rfl, l1, l2, set_at _ u hg, by simpa using hs, fun k d hk => ?_⟩
  rw [Array.getElem?_setIfInBounds_ne (by omega)]
  exact hc k d hk
theorem Loose.set_int {w : World} {v : Value} {lo hi : Nat} {dvs : List (Value × Nat)} (h : Loose w v lo hi dvs) {b : Nat} {cs : Array Value} (hb : w.heap[b]? = some (.cells cs 3 (0, 0))) (j : Nat) (u : Value) : Loose (w.setCell ⟨b, j, none⟩ u) v lo hi dvs := by
  obtain ⟨a, c', hv, h1, h2⟩ := h
  refine ⟨a, c', hv, fun hl => ?_, fun d hd => (h2 d hd).set _ _ _⟩
  obtain ⟨g', cs', ha, l1, l2, hg, hs, hc⟩ := h1 hl
  have hne : g' ≠ b := by
    rintro rfl
    rw [hg] at hb
    have := Option.some.inj hb
    injection this with _ ht _
    exact absurd ht (by decide)
  exact ⟨g', cs', ha, l1, l2, (show Keep (fun b' => b' ≠ b) w _ from Keep.setCell _ _ _ (by simp)).heap hg hne, hs, hc⟩
theorem SizesOwn.loose {base : Nat} {w : World} {v : Value} {ss : List SizeD} (h : SizesOwn base w v ss) : ∃ dvs : List (Value × Nat), dvs.length = ss.length ∧ (∀ d, d ∈ dvs → ∃ s, s ∈ ss ∧ d.2 = s.dist.length) ∧ Loose w v base w.heap.size dvs := by
  obtain ⟨qs, rfl, h2, h3⟩ := h
  refine ⟨qs.map fun q => (q.2, q.1.dist.length), by simp, fun d hd => by
    obtain ⟨q, hq, rfl⟩ := List.mem_map.1 hd
    exact ⟨q.1, List.mem_map.2 ⟨q, hq, rfl⟩, rfl⟩, ?_⟩
  rw [List.length_map] at h2
  have hi : ∀ d, d ∈ qs.map (fun q => (q.2, q.1.dist.length)) → HasInts w d.1 base w.heap.size d.2 := fun d hd => by
    obtain ⟨q, hq, rfl⟩ := List.mem_map.1 hd
    exact own_hasInts (h3 q hq)
  rcases h2.2 with ⟨rfl, h0⟩ | ⟨g, cap, cur, rfl, hb, hg, hnc, hcm, hcs, ht⟩
  · exact ⟨none, 0, by rw [List.length_map, h0], fun h => by rw [List.length_map] at h; omega, hi⟩
  · refine ⟨_, cap, by rw [List.length_map], fun _ => ⟨g, cur, rfl, hb, heap_lt hg, hg, by rw [List.length_map]; omega, fun i d hd => ?_⟩, hi⟩
    rw [List.getElem?_map] at hd
    obtain ⟨q, hq, rfl⟩ := Option.map_eq_some_iff.1 hd
    have hlt : i < qs.length := (List.getElem?_eq_some_iff.1 hq).1
    have := flatMap_at sizeC 3 (fun _ => rfl) qs i 2 q hq (by decide)
    rw [← ht, List.getElem?_take, if_pos (by omega), Array.getElem?_toList] at this
    exact this
end Go.Proofs
