/- inklingref12.Faults: the same answer as safe.Faults. -/
import Derived.Test.YtdedcebabimioaaProg
import Derived.Test.YtdedcebabimioaaRefB
import Derived.Test.YtdedcebabimioaaFaults
import Derived.Deep.RegionHeld3
namespace Go.Proofs
open Go.RowKit Go.Ink
set_option linter.unusedVariables false
set_option linter.unusedSimpArgs false
attribute [local go_sem] Oper.semAt_some

theorem faultsIn_names (i : Int) (r : RuleD) (fs : List LooseD) : ∀ k, (faultsIn i r fs k).2.length ≤ (boundOf r.body).length + k := by
  intro k
  induction k with
  | zero => simp [faultsIn]
  | succ k ih =>
    rcases Nat.lt_or_ge k r.stands.length with h | h
    · rw [faultsIn_snoc (List.getElem?_eq_getElem h)]
      unfold fstep
      split
      · omega
      · simp only [List.length_append, List.length_singleton]; omega
    · have : faultsIn i r fs (k + 1) = faultsIn i r fs k := by unfold faultsIn; rw [List.take_of_length_le (by omega), List.take_of_length_le h]
      rw [this]; omega

set_option maxRecDepth 100000 in
set_option maxHeartbeats 4000000 in
theorem rfaults_any (si so sr : Value) (rs : List RuleD) (w : World) (hr : RulesIn w.heap.size w sr rs) (hf : ∀ r, r ∈ rs → RuleFits r) (hN : (rs.map fun r => r.stands.length).sum ≤ 536870912) :
    Calls Try.prog 12 #[.agg #[si, so, sr]] w fun e w' => ∃ v, e = .returned v ∧ Keep (fun k => k < w.heap.size) w w' ∧
      w'.ownsRow w.heap.size 52 3 v (faultsOf rs).length ((faultsOf rs).flatMap looseCells) := by
  obtain ⟨a, cap, rfl, hlen, hcap, hel⟩ := id hr
  have Xhr := Lib.hid hr
  have Xhel := Lib.hid hel
  have Xhf := Lib.hid hf
  have XhN := Lib.hid hN
  clear hr hel hf hN
  go_enter Try.func12, Try.ntmps12
  go_wp2_with fail
  refine wp_abs (fun W => Keep (fun k => k < w.heap.size) w W ∧ W.heap[w.heap.size]? = some (.cells #[si, so, .slice a rs.length cap] 45 (0, 0))) ⟨Keep.alloc _ _ _, new_block _ _⟩ ?_
  rintro W0 ⟨k0, n0⟩
  have lw0 := heap_lt n0
  have Xk0 := Lib.hid k0
  have Xn0 := Lib.hid n0
  clear k0 n0
  go_loopw [3, 4] (fun v3 ix wr => ∃ (i : Nat), i ≤ rs.length ∧ ix = .int .i64 i ∧ Keep (fun k => k < w.heap.size + 1) W0 wr ∧ wr.ownsRow (w.heap.size + 1) 52 3 v3 (faultsTo rs i).length ((faultsTo rs i).flatMap looseCells)) (fun _ i _ => rs.length - (intOf i).toNat)
  case atStart => exact ⟨0, by omega, rfl, Keep.refl _ _, World.ownsRow_nil _ _ _ _⟩
  case round =>
    obtain ⟨i, hi, rfl, hK, hO⟩ := hrel
    have hbox := hK.heap Xn0.out (by omega)
    have d2 := cells_of_block hbox 2 _ rfl
    simp only [Nat.zero_add] at d2
    have hszk := hK.size
    have kw := Xk0.out.trans (hK.mono fun b _ h => by omega)
    by_cases hlt : i < rs.length
    · obtain ⟨r, hrk⟩ : ∃ r, rs[i]? = some r := ⟨_, List.getElem?_eq_getElem hlt⟩
      have hrd : rs.getD i default = r := by simp [List.getD, hrk]
      obtain ⟨b, off, rfl, hb, sh, sb, hcl, hri⟩ := Xhel.out i r hrk
      have hfr := Xhf.out r (List.mem_of_getElem? hrk)
      have g : ∀ j v, (ruleCells r sh sb)[j]? = some v → wr.cell? ⟨b, off + i * 3 + j, none⟩ = some v := fun j v h => kw.cell (hcl j v h) hb
      obtain ⟨⟨ah, capH, rfl, hlenh, hcaph, helh⟩, ⟨ab, capB, rfl, hlenb, hcapb, helb⟩⟩ := id hri
      have f0 := g 0 _ rfl
      have f1 := g 1 _ rfl
      have f2 := g 2 _ rfl
      simp only [Nat.add_zero] at f0
      have hbw : b < wr.heap.size := by omega
      have hlb : (boundOf r.body).length ≤ 1073741824 := by
        refine Nat.le_trans (onceL_len _) (Nat.le_trans ?_ hfr)
        exact bound_flat2 r.body
      have hcount : (faultsTo rs i).length + r.stands.length ≤ 536870912 := by
        have e1 := faultsTo_len rs i (by omega)
        have e2 := sum_take_le rs (i + 1)
        rw [List.take_add_one, hrk] at e2
        simp only [Option.toList_some, List.map_append, List.map_cons, List.map_nil, List.sum_append, List.sum_cons, List.sum_nil] at e2
        have := XhN.out
        omega
      have hlb2 : (boundOf r.body).length ≤ r.stands.length := by
        refine Nat.le_trans (onceL_len _) (Nat.le_trans (bound_flat2 r.body) ?_)
        have h : r.names.length = r.stands.length := by simp [RuleD.names]
        rw [← h, names_eq, List.length_append]
        omega
      have hriw := (hri.keep kw).wider (show w.heap.size ≤ wr.heap.size by omega)
      obtain ⟨Wk, hWk⟩ : ∃ Wk, Wk = wr := ⟨_, rfl⟩
      rw [← hWk] at hK hO hbox d2 hszk kw f0 f1 f2 hbw hriw ⊢
      clear g hcl helh helb hri hWk
      have hO3b : ∀ b, Value.ownBlock u3 = some b → w.heap.size + 1 ≤ b ∧ b < Wk.heap.size := fun b hb => World.ownsRow.lt hO b hb
      have XhK := Lib.hid hK
      have XhO := Lib.hid hO
      have Xhbox := Lib.hid hbox
      have Xkw := Lib.hid kw
      have Xhrk := Lib.hid hrk
      have Xhrd := Lib.hid hrd
      have Xhfr := Lib.hid hfr
      have Xhlb := Lib.hid hlb
      have Xhriw := Lib.hid hriw
      have XhO3b := Lib.hid hO3b
      clear hK hO hbox kw hrk hrd hfr hlb hriw hO3b
      go_wp2_with fail
      refine (uses_any r _ _ Wk Xhriw.out (by omega)).mono ?_
      rintro e W5 ⟨v5, rfl, k5, ho5⟩
      have z5 := k5.size
      have hU5 := own_uses ho5 rfl (by omega)
      obtain ⟨us, hus⟩ : ∃ us, r.stands = us := ⟨_, rfl⟩
      have hb5 : ∀ b, Value.ownBlock v5 = some b → Wk.heap.size ≤ b ∧ b < W5.heap.size := fun b hb => World.ownsRow.lt ho5 b hb
      rw [hus] at hU5 ho5 hcount hlb2
      obtain ⟨a5, c5, rfl, hl5, hc5, he5⟩ := id hU5
      have e2' := k5.cell d2 (by simp; omega)
      have g0 := k5.cell f0 hbw
      have g1 := k5.cell f1 hbw
      have g2 := k5.cell f2 hbw
      have hriw5 := (Xhriw.out.keep k5).wider z5
      clear ho5 hU5 d2 f0 f1 f2
      have Xk5 := Lib.hid k5
      have Xhe5 := Lib.hid he5
      have Xhus := Lib.hid hus
      have Xhb5 := Lib.hid hb5
      have Xhriw5 := Lib.hid hriw5
      clear k5 he5 hus hb5 hriw5
      go_wp2_with fail
      refine (rbound_any Wk.heap.size _ r.body W5 (lits_keep Xhriw.out.2 Xk5.out) z5 Xhfr.out).mono ?_
      rintro e W6 ⟨v6, rfl, k6, ho6⟩
      have z6 := k6.size
      have hb6 : ∀ b, Value.ownBlock v6 = some b → W5.heap.size ≤ b ∧ b < W6.heap.size := fun b hb => World.ownsRow.lt ho6 b hb
      have hO6 := own_kept XhO.out (Xk5.out.trans (k6.mono fun b _ h => by omega)) (fun b hb => (XhO3b.out b hb).2)
      have K6 : Keep (fun k => k < w.heap.size + 1) W0 W6 := XhK.out.trans ((Xk5.out.mono fun b _ h => by omega).trans (k6.mono fun b _ h => by omega))
      clear e2' g0 g1 g2
      have Xk6 := Lib.hid k6
      have Xho6 := Lib.hid ho6
      have Xhb6 := Lib.hid hb6
      have XhO6 := Lib.hid hO6
      have XK6 := Lib.hid K6
      clear k6 ho6 hb6 hO6 K6
      go_wp2_with fail
      go_loopw [3, 6, 7] (fun v3 v6 ix wr => ∃ (k : Nat), k ≤ us.length ∧ ix = .int .i64 k ∧ Keep (fun b => b < w.heap.size + 1 ∨ (Wk.heap.size ≤ b ∧ b < W5.heap.size)) W6 wr ∧
         wr.ownsRow (w.heap.size + 1) 52 3 v3 (faultsIn i r (faultsTo rs i) k).1.length ((faultsIn i r (faultsTo rs i) k).1.flatMap looseCells) ∧ wr.ownsRow W5.heap.size 9 1 v6 (faultsIn i r (faultsTo rs i) k).2.length ((faultsIn i r (faultsTo rs i) k).2.map .string) ∧
         (∀ b, Value.ownBlock v3 = some b → b < Wk.heap.size ∨ W6.heap.size ≤ b) ∧ (∀ b, Value.ownBlock v6 = some b → Value.ownBlock v3 ≠ some b)) (fun _ _ i _ => us.length - (intOf i).toNat)
      case atStart => exact ⟨0, by omega, rfl, Keep.refl _ _, XhO6.out, Xho6.out, fun b hb => .inl (XhO3b.out b hb).2, fun b hb h => by have h1 := Xhb6.out b hb; have h2 := XhO3b.out b h; omega⟩
      case round =>
        obtain ⟨k, hk, rfl, hK7, hO7, hS7, hb7, hne7⟩ := hrel
        have hsz7 := hK7.size
        by_cases hlt3 : k < us.length
        · obtain ⟨x, hx⟩ : ∃ x, us[k]? = some x := ⟨_, List.getElem?_eq_getElem hlt3⟩
          obtain ⟨b5, o5, rfl, hb55, he⟩ := Xhe5.out k x hx
          have hb5k : Wk.heap.size ≤ b5 := (Xhb5.out b5 rfl).1
          have f0 := hK7.cell (Xk6.out.cell he.1 hb55) (show b5 < w.heap.size + 1 ∨ (Wk.heap.size ≤ b5 ∧ b5 < W5.heap.size) by omega)
          have f1 := hK7.cell (Xk6.out.cell he.2 hb55) (show b5 < w.heap.size + 1 ∨ (Wk.heap.size ≤ b5 ∧ b5 < W5.heap.size) by omega)
          have hbw : b5 < wr.heap.size := by omega
          obtain ⟨pos, s⟩ := x
          have hsn := faultsIn_snoc (i := i) (fs := faultsTo rs i) (show r.stands[k]? = some (pos, s) by rw [Xhus.out]; exact hx)
          have hfl := faultsIn_len i r (faultsTo rs i) k
          have hfn := faultsIn_names i r (faultsTo rs i) k
          obtain ⟨fs, hfs⟩ : ∃ fs, (faultsIn i r (faultsTo rs i) k).1 = fs := ⟨_, rfl⟩
          obtain ⟨ss, hss⟩ : ∃ ss, (faultsIn i r (faultsTo rs i) k).2 = ss := ⟨_, rfl⟩
          rw [hfs] at hO7 hfl
          rw [hss] at hS7 hfn
          simp only [fstep, hfs, hss] at hsn
          have hSt := own_strs hS7 (by omega)
          have hv6b : ∀ b, Value.ownBlock u6 = some b → W5.heap.size ≤ b ∧ b < wr.heap.size := fun b hb => World.ownsRow.lt hS7 b hb
          have hv3b : ∀ b, Value.ownBlock u3 = some b → w.heap.size + 1 ≤ b ∧ b < wr.heap.size := fun b hb => World.ownsRow.lt hO7 b hb
          clear he hx
          have XhK7 := Lib.hid hK7
          have XhO7 := Lib.hid hO7
          have XhS7 := Lib.hid hS7
          have Xhb7 := Lib.hid hb7
          have Xhne7 := Lib.hid hne7
          have Xhfs := Lib.hid hfs
          have Xhss := Lib.hid hss
          have XhSt := Lib.hid hSt
          have Xhsn := Lib.hid hsn
          have Xhv6b := Lib.hid hv6b
          have Xhv3b := Lib.hid hv3b
          clear hK7 hO7 hS7 hb7 hne7 hfs hss hSt hsn hv6b hv3b
          go_wp2_with fail
          refine (has_any wr.heap.size _ ss s _ XhSt.out (Nat.le_refl _)).mono ?_
          rintro e W8 ⟨rfl, k8⟩
          have z8 := k8.size
          have e0 := k8.cell f0 trivial
          have e1 := k8.cell f1 trivial
          have K8 := XhK7.out.trans (k8.mono fun _ _ _ => trivial)
          have hO8 := own_kept XhO7.out k8 (fun _ _ => trivial)
          have hS8 := own_kept XhS7.out k8 (fun _ _ => trivial)
          have hbw8 : b5 < W8.heap.size := by omega
          clear f0 f1 k8
          by_cases hin : s ∈ ss
          · rw [decide_eq_true hin]
            have hsn2 := Xhsn.out
            rw [if_pos hin] at hsn2
            clear hin
            have XK8 := Lib.hid K8
            have XhO8 := Lib.hid hO8
            have XhS8 := Lib.hid hS8
            have Xhsn2 := Lib.hid hsn2
            clear K8 hO8 hS8 hsn2
            go_wp2_with fail
            go_roundw
            case rel => exact ⟨k + 1, by omega, by go_num, XK8.out, by rw [Xhsn2.out, Xhfs.out]; exact XhO8.out, by rw [Xhsn2.out, Xhss.out]; exact XhS8.out, Xhb7.out, Xhne7.out⟩
            case measure => simp [intOf]; omega
          · rw [decide_eq_false hin]
            have hsn2 := Xhsn.out
            rw [if_neg hin] at hsn2
            clear hin
            obtain ⟨v', W9, hr9, ho9, hk9, g9, cap9, hv9, hg9, hl9⟩ := app1 el_strs 56 hS8 [.string s] rfl (by simp [Value.oneCell']) (by omega) (by omega)
            subst hv9
            have z9 := hk9.size
            have nob5 : some b5 ≠ Value.ownBlock u6 := fun e => by have := Xhv6b.out b5 e.symm; omega
            have d0 := hk9.cell e0 nob5
            have d1 := hk9.cell e1 nob5
            have hO9 := own_kept hO8 hk9 (fun b hb e => Xhne7.out b e.symm hb)
            have K9 : Keep (fun b => b < w.heap.size + 1 ∨ (Wk.heap.size ≤ b ∧ b < W5.heap.size)) W6 W9 := K8.trans (hk9.mono fun b _ h e => by have h1 := Xhv6b.out b e.symm; omega)
            have hg9b : W5.heap.size ≤ g9 ∧ g9 < W9.heap.size := ⟨hg9.elim (fun h => (Xhv6b.out g9 h).1) (fun h => by omega), hl9⟩
            have hn9 : Value.ownBlock u3 ≠ some g9 := fun h => by
              rcases hg9 with h' | h'
              · exact Xhne7.out g9 h' h
              · have := (Xhv3b.out g9 h).2; omega
            have hbw9 : b5 < W9.heap.size := by omega
            have hf30 : fs.length + 1 ≤ 8589934592 := by omega
            clear hk9 hg9 hl9 nob5
            have XK8 := Lib.hid K8
            have XhO8 := Lib.hid hO8
            have XhS8 := Lib.hid hS8
            have Xhsn2 := Lib.hid hsn2
            have Xhr9 := Lib.hid hr9
            have Xho9 := Lib.hid ho9
            have XhO9 := Lib.hid hO9
            have XK9 := Lib.hid K9
            have Xhn9 := Lib.hid hn9
            clear K8 hO8 hS8 hsn2 hr9 ho9 hO9 K9 hn9
            go_wp2_with (at_builtin; refine go_app rfl _ _ _ rfl rfl rfl Xhr9.out ?_)
            go_region_held3 (fun W => W.cell? ⟨b5, o5 + k * 2, none⟩ = some (.int .i64 pos) ∧ W.cell? ⟨b5, o5 + k * 2 + 1, none⟩ = some (.string s))
              (first | (refine ⟨?_, ?_⟩ <;> assumption) | go_keep)
              (first
                | (refine step_app1 (v := u3) el_loose rfl _ _ rfl rfl rfl (own_kept (own_kept XhO9.out (Keep.drew (fun _ => True) _) (fun _ _ => trivial)) (Keep.alloc (fun _ => True) _ _) (fun _ _ => trivial)) (looseCells ⟨i, pos, s⟩) rfl (fun j u hj => by have := cells_of_block (new_block W9.drew (.cells (looseCells ⟨i, pos, s⟩).toArray 52)) j u (by simpa using hj); rw [Nat.zero_add] at this; exact this) (by simp [looseCells, Value.oneCell']) hf30 (by simp; omega) ?_; intro g2 cap2 w2 ho2 hk2 hg2 hl2; have nob : some b5 ≠ Value.ownBlock u3 := fun e => (Xhb7.out b5 e.symm).elim (fun h => by omega) (fun h => by omega); have r0 := hk2.cell (old_cell (show W9.drew.cell? _ = _ from d0) _) nob; have r1 := hk2.cell (old_cell (show W9.drew.cell? _ = _ from d1) _) nob))
            have kk : Keep (fun b => some b ≠ Value.ownBlock u3) W9 w2 := ((Keep.drew _ _).trans (Keep.alloc _ _ _)).trans hk2
            have K11 : Keep (fun b => b < w.heap.size + 1 ∨ (Wk.heap.size ≤ b ∧ b < W5.heap.size)) W6 w2 := XK9.out.trans (kk.mono fun b _ h e => by
              have h1 := (Xhv3b.out b e.symm).1
              have h2 := Xhb7.out b e.symm
              omega)
            have ho11 : w2.ownsRow (w.heap.size + 1) 52 3 (.slice (some ⟨g2, 0, none⟩) (fs.length + 1) cap2) (faultsIn i r (faultsTo rs i) (k + 1)).1.length ((faultsIn i r (faultsTo rs i) (k + 1)).1.flatMap looseCells) := by
              rw [Xhsn2.out]
              simpa using ho2
            have hs11 : w2.ownsRow W5.heap.size 9 1 (.slice (some ⟨g9, 0, none⟩) (ss.length + 1) cap9) (faultsIn i r (faultsTo rs i) (k + 1)).2.length ((faultsIn i r (faultsTo rs i) (k + 1)).2.map .string) := by
              rw [Xhsn2.out]
              have := own_kept Xho9.out kk (fun b hb e => by
                simp only [Value.ownBlock, Option.some.injEq] at hb
                subst hb
                exact Xhn9.out e.symm)
              simpa using this
            have hg2' : Value.ownBlock u3 = some g2 ∨ W9.heap.size + 1 ≤ g2 := by simpa using hg2
            have hb11 : ∀ b, Value.ownBlock (.slice (some ⟨g2, 0, none⟩) (fs.length + 1) cap2) = some b → b < Wk.heap.size ∨ W6.heap.size ≤ b := fun b hb => by
              simp only [Value.ownBlock, Option.some.injEq] at hb
              subst hb
              rcases hg2' with h | h
              · exact Xhb7.out _ h
              · omega
            have hne11 : ∀ b, Value.ownBlock (.slice (some ⟨g9, 0, none⟩) (ss.length + 1) cap9) = some b → Value.ownBlock (.slice (some ⟨g2, 0, none⟩) (fs.length + 1) cap2) ≠ some b := fun b hb h => by
              simp only [Value.ownBlock, Option.some.injEq] at hb h
              subst hb
              rw [h] at hg2'
              rcases hg2' with h' | h'
              · exact Xhn9.out h'
              · omega
            clear r0 r1 hk2 ho2 hg2 hg2' kk
            have XK11 := Lib.hid K11
            have Xho11 := Lib.hid ho11
            have Xhs11 := Lib.hid hs11
            have Xhb11 := Lib.hid hb11
            have Xhne11 := Lib.hid hne11
            clear K11 ho11 hs11 hb11 hne11
            go_wp2_with fail
            go_roundw
            case rel => exact ⟨k + 1, by omega, by go_num, XK11.out, Xho11.out, Xhs11.out, Xhb11.out, Xhne11.out⟩
            case measure => simp [intOf]; omega
        · obtain rfl : k = us.length := by omega
          have hall : (faultsIn i r (faultsTo rs i) us.length).1 = faultsTo rs (i + 1) := by
            simp only [faultsTo, Xhrd.out, Xhus.out]
          rw [hall] at hO7
          have K10 : Keep (fun k => k < w.heap.size + 1) W0 wr := XK6.out.trans (hK7.mono fun b _ h => .inl h)
          clear hK7 hS7 hb7 hne7 hall
          have XhO7 := Lib.hid hO7
          have XK10 := Lib.hid K10
          clear hO7 K10
          go_wp2_with fail
          go_roundw
          case rel => exact ⟨i + 1, by omega, by go_num, XK10.out, XhO7.out⟩
          case measure => simp [intOf]; omega
    · obtain rfl : i = rs.length := by omega
      clear hbox hK
      have XhO := Lib.hid hO
      have Xkw := Lib.hid kw
      clear hO kw
      go_wp2_with fail
      go_ret
      exact ⟨_, rfl, Xkw.out, own_base2 XhO.out (by omega)⟩
end Go.Proofs
