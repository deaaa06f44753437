/- The law SafeProgram: its walk. -/
import Derived.Test.YtdedcebabimioaaProg
import Derived.Test.YtdedcebabimioaaKnown
import Derived.Test.YtdedcebabimioaaWayLaw
import Derived.Test.YtdedcebabimioaaRefF
import Derived.Test.YtdedcebabimioaaSameP
import Derived.Test.YtdedcebabimioaaMapped
namespace Go.Proofs
open Go.RowKit Go.Ink
set_option linter.unusedVariables false
set_option linter.unusedSimpArgs false
attribute [local go_sem] Oper.semAt_some

theorem check_faults (rs : List RuleD) : ∀ k, k ≤ rs.length → (faultsTo rs k = [] ∧ checkFrom rs 0 = checkFrom (rs.drop k) k) ∨
    ∃ (i : Int) (pos : Int) (x : ByteArray) (rest : List LooseD), faultsTo rs k = ⟨i, pos, x⟩ :: rest ∧ checkFrom rs 0 = .tuple #[.int .i64 i, .string x, .int .i64 14] := by
  intro k
  induction k with
  | zero => intro _; exact .inl ⟨rfl, rfl⟩
  | succ k ih =>
    intro hk
    obtain ⟨r, hr⟩ : ∃ r, rs[k]? = some r := ⟨_, List.getElem?_eq_getElem (by omega)⟩
    have hrd : rs.getD k default = r := by simp [List.getD, hr]
    have hdrop : rs.drop k = r :: rs.drop (k + 1) := by
      have he := (List.getElem?_eq_some_iff.1 hr).2
      rw [← he]; exact List.drop_eq_getElem_cons (by omega)
    have hto : faultsTo rs (k + 1) = (r.stands.foldl (fstep k) (faultsTo rs k, boundOf r.body)).1 := by
      simp only [faultsTo, hrd, faultsIn, List.take_length]
    rcases ih (by omega) with ⟨h1, h2⟩ | ⟨i, pos, x, rest, h1, h2⟩
    · rw [h1] at hto
      cases hl : looseOf r with
      | none =>
        refine .inl ⟨?_, ?_⟩
        · rw [hto, fold_same]
          intro y hy
          have := List.find?_eq_none.1 hl y.2 (List.mem_map.2 ⟨y, hy, rfl⟩)
          simpa using this
        · rw [h2, hdrop, checkFrom_none _ _ hl]
      | some x =>
        obtain ⟨pos, rest, hf⟩ := fold_first k x r.stands (boundOf r.body) hl
        exact .inr ⟨k, pos, x, rest, by rw [hto]; exact hf, by rw [h2, hdrop, checkFrom_some _ _ hl]⟩
    · obtain ⟨rest2, hg⟩ := fold_grow k r.stands (faultsTo rs k) (boundOf r.body)
      exact .inr ⟨i, pos, x, rest ++ rest2, by rw [hto, hg, h1]; rfl, h2⟩

theorem box_cell3 {W : World} {B t : Nat} {u v x : Value} (h : W.heap[B]? = some (.cells #[u, v, x] t (0, 0))) : W.cell? ⟨B, 0, none⟩ = some u ∧ W.cell? ⟨B, 1, none⟩ = some v ∧ W.cell? ⟨B, 2, none⟩ = some x := by
  have c0 := cells_of_block h 0 _ rfl
  have c1 := cells_of_block h 1 _ rfl
  have c2 := cells_of_block h 2 _ rfl
  simp only [Nat.zero_add] at c0 c1 c2
  exact ⟨c0, c1, c2⟩

set_option maxRecDepth 100000 in
set_option maxHeartbeats 4000000 in
theorem safeProgram_walk (p : ProgD) (vi vo vr : Value) (w : World) (hp : ProgIn w.heap.size w vi vo vr p) (hf : ∀ r, r ∈ p.rules → RuleFits r) (hN : (p.rules.map fun r => r.stands.length).sum ≤ 536870912)
    (hla : ∀ r, r ∈ p.rules → r.head.args.length ≤ 1073741824 ∧ r.body.length ≤ 1073741824 ∧ ∀ L, L ∈ r.body → L.atom.args.length ≤ 1073741824) :
    Calls Try.prog 4 #[.agg #[vi, vo, vr]] w fun e w' => e = .returned (.bool true) ∧ Keep (fun k => k < w.heap.size) w w' := by
  obtain ⟨ai, ci, rfl, hli, hci, hei⟩ := id hp.i
  obtain ⟨ao, co, rfl, hlo, hco, heo⟩ := id hp.o
  obtain ⟨ar, cr, rfl, hlr, hcr, her⟩ := id hp.r
  have hN1 : (p.rules.map fun r => r.stands.length).sum ≤ 1073741824 := by omega
  have hfl : (faultsOf p.rules).length ≤ 536870912 := by
    have h1 := faultsTo_len p.rules p.rules.length (Nat.le_refl _)
    rw [List.take_length] at h1
    exact Nat.le_trans h1 hN
  have hchk := check_faults p.rules p.rules.length (Nat.le_refl _)
  rw [List.drop_length] at hchk
  clear hei heo her
  have Xhp := Lib.hid hp
  have Xhf := Lib.hid hf
  have XhN := Lib.hid hN
  have XhN1 := Lib.hid hN1
  have Xhla := Lib.hid hla
  have Xhchk := Lib.hid hchk
  clear hp hf hN hN1 hla hchk
  go_enter Try.func4, Try.ntmps4
  go_wp2_with fail
  refine (copyProgram_any w.heap.size p _ _ _ _ (Xhp.out.keep (Keep.alloc _ _ _) (Nat.le_refl _)).i (Xhp.out.keep (Keep.alloc _ _ _) (Nat.le_refl _)).o (Xhp.out.keep (Keep.alloc _ _ _) (Nat.le_refl _)).r (by simp)).mono ?_
  rintro e W2 ⟨vi', vo', vr', rfl, k2, cpi, cpo, cpr⟩
  have z2 := k2.size
  simp only [World.size_alloc] at z2
  have n1 := k2.heap (new_block w _) (by simp)
  have kw2 : Keep (fun k => k < w.heap.size) w W2 := (Keep.alloc _ _ _).trans (k2.mono fun b _ h => by simp; omega)
  obtain ⟨gi, ci', rfl, _⟩ := id cpi
  obtain ⟨go, co', rfl, _⟩ := id cpo
  obtain ⟨qs, ⟨gr, cr', rfl, _⟩, _⟩ := id cpr
  clear k2
  obtain ⟨d10, d11, d12⟩ := box_cell3 n1
  have lB1 : w.heap.size < W2.heap.size := by omega
  have Xn1 := Lib.hid n1
  have Xkw2 := Lib.hid kw2
  have Xcpi := Lib.hid cpi
  have Xcpo := Lib.hid cpo
  have Xcpr := Lib.hid cpr
  clear n1 kw2 cpi cpo cpr
  go_wp2_with fail
  refine Calls_abs2 (fun W3 => Keep (fun _ => True) W2 W3 ∧ W3.heap.size = W2.heap.size + 1 ∧ W3.heap[W2.heap.size]? = some (.cells #[.slice (some ⟨gi, 0, none⟩) p.ins.length ci', .slice (some ⟨go, 0, none⟩) p.outs.length co', .slice (some ⟨gr, 0, none⟩) p.rules.length cr'] 45 (0, 0))) ⟨Keep.alloc _ _ _, by simp, new_block _ _⟩ ?_
  rintro W3 ⟨k3, s3, n3⟩
  clear d10 d11 d12 lB1
  have kw3 : Keep (fun k => k < w.heap.size) w W3 := Xkw2.out.trans (k3.mono fun _ _ _ => trivial)
  refine (rfaults_any _ _ _ p.rules W3 ((Xhp.out.keep kw3 (Nat.le_refl _)).wider (by omega)).r Xhf.out XhN.out).mono ?_
  rintro e W4 ⟨v4, rfl, k4, ho4⟩
  have z4 := k4.size
  have hB1 := k4.heap (k3.heap Xn1.out trivial) (by omega)
  have hB3 := k4.heap n3 (by omega)
  have hP4 := (Xhp.out.keep kw3 (Nat.le_refl _)).keep k4 (by omega)
  have hci4 := (Xcpi.out.keep k3 (fun _ _ _ => trivial)).keep k4 (fun b _ h => h)
  have hco4 := (Xcpo.out.keep k3 (fun _ _ _ => trivial)).keep k4 (fun b _ h => h)
  have hcr4 := (Xcpr.out.keep k3 (fun _ _ _ => trivial)).keep k4 (fun b _ h => h)
  have hL4 := own_looses ho4 rfl (by omega)
  have kw4 : Keep (fun k => k < w.heap.size) w W4 := kw3.trans (k4.mono fun b _ h => by omega)
  obtain ⟨a4, c4, rfl⟩ := own_form ho4
  have hPc := hcr4.rules hlr Xhla.out
  have d1 := box_cell3 hB1
  have d3 := box_cell3 hB3
  obtain ⟨d10, d11, d12⟩ := d1
  obtain ⟨d30, d31, d32⟩ := d3
  have lB1 : w.heap.size < W4.heap.size := by omega
  have lB3 : W2.heap.size < W4.heap.size := by omega
  clear k3 k4 n3 kw3 ho4 Xn1 Xkw2 Xcpi Xcpo Xcpr
  have XhB1 := Lib.hid hB1
  have XhB3 := Lib.hid hB3
  have XhP4 := Lib.hid hP4
  have Xhci4 := Lib.hid hci4
  have Xhco4 := Lib.hid hco4
  have Xhcr4 := Lib.hid hcr4
  have XhL4 := Lib.hid hL4
  have Xkw4 := Lib.hid kw4
  have XhPc := Lib.hid hPc
  clear hB1 hB3 hP4 hci4 hco4 hcr4 hL4 kw4 hPc
  go_wp2_with fail
  refine (faults_any _ _ _ p.rules W4 XhPc.out Xhf.out XhN1.out rfl rfl).mono ?_
  rintro e W5 ⟨v5, rfl, k5, ho5⟩
  have z5 := k5.size
  obtain ⟨a5, c5, rfl⟩ := own_form ho5
  have hPc5 := rules_keep XhPc.out k5
  have e30 := k5.cell d30 lB3
  have e31 := k5.cell d31 lB3
  have e32 := k5.cell d32 lB3
  have Xk5 := Lib.hid k5
  have Xho5 := Lib.hid ho5
  have XhPc5 := Lib.hid hPc5
  clear k5 ho5 hPc5
  go_wp2_with fail
  refine (check_any W4.heap.size _ _ _ p.rules W5 XhPc5.out z5 Xhf.out rfl rfl).mono ?_
  rintro e W6 ⟨rfl, k6⟩
  have z6 := k6.size
  have K6 := Xk5.out.trans (k6.mono fun b _ h => by omega)
  have ho6 := own_kept Xho5.out k6 (fun b hb => (World.ownsRow.lt Xho5.out b hb).2)
  have hL5 := own_looses ho6 rfl (by omega)
  have hL46 := looses_keep XhL4.out K6 (Nat.le_refl _)
  clear e30 e31 e32 k6 Xho5 Xk5 XhPc5
  obtain ⟨fs, hfs⟩ : ∃ fs, faultsOf p.rules = fs := ⟨_, rfl⟩
  rw [hfs] at ho6 hL5 hL46 hfl
  have hchk := Xhchk.out
  rw [show faultsTo p.rules p.rules.length = fs from hfs] at hchk
  rw [hfs]
  have hrow : fs.length = 0 ∨ ∃ g cur, a5 = some ⟨g, 0, none⟩ ∧ W4.heap.size ≤ g ∧ W6.heap[g]? = some (.cells cur 52 (0, 0)) ∧ fs.length * 3 ≤ cur.size := by
    rcases ho6.2 with ⟨h, h'⟩ | ⟨g, cap, cur, h, hbg, hg, hnc, hcm, hcs, _⟩
    · exact .inl h'
    · cases h
      exact .inr ⟨g, cur, rfl, hbg, hg, by rw [hcs]; exact Nat.mul_le_mul_right 3 hnc⟩
  clear ho6
  rcases hchk with ⟨h0, hc⟩ | ⟨i0, pos, x, rest, h0, hc⟩
  · rw [hc]
    simp only [checkFrom]
    subst h0
    clear hrow hc
    have XhL5 := Lib.hid hL5
    have XhL46 := Lib.hid hL46
    have XK6 := Lib.hid K6
    have Xhfs := Lib.hid hfs
    clear hL5 hL46 K6 hfs
    go_wp2_with fail
    refine (sameLoose_any W6.heap.size _ _ [] W6 XhL5.out (SliceIn.wider XhL46.out (by omega) fun _ _ _ _ h => h) (Nat.le_refl _)).mono ?_
    rintro e W7 ⟨rfl, k7⟩
    have K7 := XK6.out.trans (k7.mono fun _ _ _ => trivial)
    clear k7 XhL5 XhL46 XK6
    have XK7 := Lib.hid K7
    clear K7
    go_wp2_with fail
    go_loopw [9] (fun ix wr => ix = .int .i64 0 ∧ Keep (fun k => k < W4.heap.size) W4 wr) (fun _ _ => 0)
    case atStart => exact ⟨rfl, XK7.out⟩
    case round =>
      obtain ⟨rfl, hK⟩ := hrel
      have kwr : Keep (fun k => k < w.heap.size) w wr := Xkw4.out.trans (hK.mono fun b _ h => by omega)
      have hszr := hK.size
      have x30 := hK.cell d30 lB3
      have x31 := hK.cell d31 lB3
      have x32 := hK.cell d32 lB3
      have hRr := (rules_keep XhPc.out hK)
      have hRr2 := (SliceIn.wider (E' := RuleE wr.heap.size) hRr (show W4.heap.size ≤ wr.heap.size from hszr) fun _ _ _ _ ⟨sh, sb, h1, h2⟩ => ⟨sh, sb, h1, h2.wider hszr⟩)
      have lB3r : W2.heap.size < wr.heap.size := by omega
      have XhK := Lib.hid hK
      have Xkwr := Lib.hid kwr
      have XhRr := Lib.hid hRr
      have XhRr2 := Lib.hid hRr2
      clear hK kwr hRr hRr2
      go_wp2_with fail
      refine (faults_any _ _ _ p.rules wr XhRr2.out Xhf.out XhN1.out rfl rfl).mono ?_
      rintro e W8 ⟨v8, rfl, k8, ho8⟩
      have z8 := k8.size
      have hL8 := own_looses ho8 rfl (by rw [Xhfs.out]; omega)
      rw [Xhfs.out] at hL8
      have K8 := XhK.out.trans (k8.mono fun b _ h => by omega)
      rw [Xhfs.out] at ho8
      obtain ⟨a8, c8, rfl⟩ := own_form ho8
      have hL48 := looses_keep XhL4.out K8 (Nat.le_refl _)
      rw [Xhfs.out] at hL48
      clear x30 x31 x32 k8 ho8 XhRr XhRr2
      have XhL8 := Lib.hid hL8
      have XK8 := Lib.hid K8
      have XhL48 := Lib.hid hL48
      clear hL8 K8 hL48
      go_wp2_with fail
      refine (sameLoose_any W8.heap.size _ _ [] W8 XhL8.out (SliceIn.wider XhL48.out (by omega) fun _ _ _ _ h => h) (Nat.le_refl _)).mono ?_
      rintro e W9 ⟨rfl, k9⟩
      have K9 := XK8.out.trans (k9.mono fun _ _ _ => trivial)
      have y10 := K9.cell d10 lB1
      have y11 := K9.cell d11 lB1
      have y12 := K9.cell d12 lB1
      have y30 := K9.cell d30 lB3
      have y31 := K9.cell d31 lB3
      have y32 := K9.cell d32 lB3
      have s9 := K9.size
      have lB1w : w.heap.size < W9.heap.size := by omega
      have lB3w : W2.heap.size < W9.heap.size := by omega
      clear k9
      have XK9 := Lib.hid K9
      clear K9
      go_wp2_with fail
      have hPk := XhP4.out.keep XK9.out (show w.heap.size ≤ W4.heap.size by omega)
      refine (keptProgram_any w.heap.size _ p _ _ _ _ _ _ W9 (Xhci4.out.keep XK9.out (fun b _ h => h)) (Xhco4.out.keep XK9.out (fun b _ h => h)) (Xhcr4.out.keep XK9.out (fun b _ h => h)) hPk (by omega) Xhla.out).mono ?_
      rintro e W10 ⟨rfl, k10⟩
      have kw10 : Keep (fun k => k < w.heap.size) w W10 := (Xkw4.out.trans (XK9.out.mono fun b _ h => by omega)).trans (k10.mono fun b _ h => by omega)
      clear k10 hPk
      have Xkw10 := Lib.hid kw10
      clear kw10
      go_wp2_with fail
      refine (known_any _).mono ?_
      rintro e W12 ⟨rfl, k12⟩
      have kw12 : Keep (fun k => k < w.heap.size) w W12 := Xkw10.out.trans (k12.mono fun b _ h => by have := Xkw10.out.size; omega)
      clear k12
      have Xkw12 := Lib.hid kw12
      clear kw12
      go_wp2_with fail
      go_ret
      exact ⟨rfl, Xkw12.out⟩
  · rw [hc]
    have hpos : 0 < fs.length := by rw [h0]; simp
    have h40e : ((fs.length : Int) == 0) = false := by rw [beq_eq_false_iff_ne]; omega
    have h40p : (0 : Int) < fs.length := by omega
    have hxx : (x.toList == x.toList) = true := str_same rfl
    obtain ⟨b4, o4, ha4, hb4, hx0, _, hx2⟩ : ∃ b4 o4, a4 = some ⟨b4, o4, none⟩ ∧ b4 < W4.heap.size ∧ W6.cell? ⟨b4, o4, none⟩ = some (.int .i64 i0) ∧ True ∧ W6.cell? ⟨b4, o4 + 2, none⟩ = some (.string x) := by
      obtain ⟨a', cap', hv', _, _, hel'⟩ := hL46
      have ha : a4 = a' := by injection hv'
      obtain ⟨b', o', e1, e2, e3⟩ := hel' 0 ⟨i0, pos, x⟩ (by rw [h0]; rfl)
      rw [ha]
      exact ⟨b', o', e1, e2, by simpa using e3.1, trivial, by simpa using e3.2.2⟩
    subst ha4
    clear hc
    have XhL5 := Lib.hid hL5
    have XhL46 := Lib.hid hL46
    have XK6 := Lib.hid K6
    have Xhfs := Lib.hid hfs
    have Xhrow := Lib.hid hrow
    have Xh0 := Lib.hid h0
    clear hL5 hL46 K6 hfs hrow h0
    go_wp2_with fail
    refine (sameLoose_any W6.heap.size _ _ fs W6 XhL5.out (SliceIn.wider XhL46.out (by omega) fun _ _ _ _ h => h) (Nat.le_refl _)).mono ?_
    rintro e W7 ⟨rfl, k7⟩
    have K7 := XK6.out.trans (k7.mono fun _ _ _ => trivial)
    have y0 := k7.cell hx0 trivial
    have y2 := k7.cell hx2 trivial
    have hb47 : b4 < W7.heap.size := by have := k7.size; omega
    have hrow7 : ∃ g cur, a5 = some ⟨g, 0, none⟩ ∧ W4.heap.size ≤ g ∧ W7.heap[g]? = some (.cells cur 52 (0, 0)) ∧ fs.length * 3 ≤ cur.size := by
      rcases Xhrow.out with h | ⟨g, cur, e1, e2, e3, e4⟩
      · omega
      · exact ⟨g, cur, e1, e2, k7.heap e3 trivial, e4⟩
    obtain ⟨g5, cur0, rfl, hg5, hrow7, hcur0⟩ := hrow7
    clear k7 XhL5 XhL46 XK6 hx0 hx2 Xhrow
    have XK7 := Lib.hid K7
    have Xhrow7 := Lib.hid hrow7
    clear K7 hrow7
    go_wp2_with fail
    go_loopw [9] (fun ix wr => ∃ k : Nat, k ≤ fs.length ∧ ix = .int .i64 k ∧ Keep (fun k => k < W4.heap.size) W4 wr ∧ ∃ cur, wr.heap[g5]? = some (.cells cur 52 (0, 0)) ∧ fs.length * 3 ≤ cur.size) (fun i _ => fs.length - (intOf i).toNat)
    case atStart => exact ⟨0, by omega, rfl, XK7.out, cur0, Xhrow7.out, hcur0⟩
    case round =>
      obtain ⟨k, hk, rfl, hK, cur, hcr5, hcs⟩ := hrel
      by_cases hlt : k < fs.length
      · have hlt1 : (k : Int) < fs.length := by omega
        have hk0 : (0 : Int) ≤ k := by omega
        have q0 := cells_of_block hcr5 (k * 3) (cur[k * 3]'(by omega)) (by rw [Array.getElem?_toList]; exact Array.getElem?_eq_getElem _)
        have q1 := cells_of_block hcr5 (k * 3 + 1) (cur[k * 3 + 1]'(by omega)) (by rw [Array.getElem?_toList]; exact Array.getElem?_eq_getElem _)
        have q2 := cells_of_block hcr5 (k * 3 + 2) (cur[k * 3 + 2]'(by omega)) (by rw [Array.getElem?_toList]; exact Array.getElem?_eq_getElem _)
        simp only [Nat.zero_add] at q0 q1 q2
        have t0 := box_free hcr5 (k * 3)
        have t1 := box_free hcr5 (k * 3 + 1)
        have t2 := box_free hcr5 (k * 3 + 2)
        have hgw : g5 < wr.heap.size := heap_lt hcr5
        have hnx : ∀ u u' u'', ((((wr.setCell ⟨g5, k * 3, none⟩ u).setCell ⟨g5, k * 3 + 1, none⟩ u').setCell ⟨g5, k * 3 + 2, none⟩ u'')).heap[g5]? = some (.cells (((cur.setIfInBounds (k * 3) u).setIfInBounds (k * 3 + 1) u').setIfInBounds (k * 3 + 2) u'') 52 (0, 0)) := fun u u' u'' => set_at _ _ (set_at _ _ (set_at _ _ hcr5))
        have hkf : ∀ u u' u'', Keep (fun k => k < W4.heap.size) W4 (((wr.setCell ⟨g5, k * 3, none⟩ u).setCell ⟨g5, k * 3 + 1, none⟩ u').setCell ⟨g5, k * 3 + 2, none⟩ u'') := fun u u' u'' => hK.trans ((((Keep.setCell (C := fun b => b ≠ g5) _ _ _ (by simp)).trans (Keep.setCell _ _ _ (by simp))).trans (Keep.setCell _ _ _ (by simp))).mono fun b _ h => by omega)
        clear hcr5
        have XhK := Lib.hid hK
        have Xhnx := Lib.hid hnx
        have Xhkf := Lib.hid hkf
        clear hK hnx hkf
        go_wp2_with fail
        go_roundw
        case rel => exact ⟨k + 1, by omega, by go_num, Xhkf.out _ _ _, _, Xhnx.out _ _ _, by simpa using hcs⟩
        case measure => simp [intOf]; omega
      · obtain rfl : k = fs.length := by omega
        clear hcr5
        have kwr : Keep (fun k => k < w.heap.size) w wr := Xkw4.out.trans (hK.mono fun b _ h => by omega)
        have hszr := hK.size
        have x30 := hK.cell d30 lB3
        have x31 := hK.cell d31 lB3
        have x32 := hK.cell d32 lB3
        have hRr := (rules_keep XhPc.out hK)
        have hRr2 := (SliceIn.wider (E' := RuleE wr.heap.size) hRr (show W4.heap.size ≤ wr.heap.size from hszr) fun _ _ _ _ ⟨sh, sb, h1, h2⟩ => ⟨sh, sb, h1, h2.wider hszr⟩)
        have lB3r : W2.heap.size < wr.heap.size := by omega
        have XhK := Lib.hid hK
        have Xkwr := Lib.hid kwr
        have XhRr := Lib.hid hRr
        have XhRr2 := Lib.hid hRr2
        clear hK kwr hRr hRr2
        go_wp2_with fail
        refine (faults_any _ _ _ p.rules wr XhRr2.out Xhf.out XhN1.out rfl rfl).mono ?_
        rintro e W8 ⟨v8, rfl, k8, ho8⟩
        have z8 := k8.size
        have hL8 := own_looses ho8 rfl (by rw [Xhfs.out]; omega)
        rw [Xhfs.out] at hL8
        have K8 := XhK.out.trans (k8.mono fun b _ h => by omega)
        rw [Xhfs.out] at ho8
        obtain ⟨a8, c8, rfl⟩ := own_form ho8
        have hL48 := looses_keep XhL4.out K8 (Nat.le_refl _)
        rw [Xhfs.out] at hL48
        clear x30 x31 x32 k8 ho8 XhRr XhRr2
        have XhL8 := Lib.hid hL8
        have XK8 := Lib.hid K8
        have XhL48 := Lib.hid hL48
        clear hL8 K8 hL48
        go_wp2_with fail
        refine (sameLoose_any W8.heap.size _ _ fs W8 XhL8.out (SliceIn.wider XhL48.out (by omega) fun _ _ _ _ h => h) (Nat.le_refl _)).mono ?_
        rintro e W9 ⟨rfl, k9⟩
        have K9 := XK8.out.trans (k9.mono fun _ _ _ => trivial)
        have y10 := K9.cell d10 lB1
        have y11 := K9.cell d11 lB1
        have y12 := K9.cell d12 lB1
        have y30 := K9.cell d30 lB3
        have y31 := K9.cell d31 lB3
        have y32 := K9.cell d32 lB3
        have s9 := K9.size
        have lB1w : w.heap.size < W9.heap.size := by omega
        have lB3w : W2.heap.size < W9.heap.size := by omega
        clear k9
        have XK9 := Lib.hid K9
        clear K9
        go_wp2_with fail
        have hPk := XhP4.out.keep XK9.out (show w.heap.size ≤ W4.heap.size by omega)
        refine (keptProgram_any w.heap.size _ p _ _ _ _ _ _ W9 (Xhci4.out.keep XK9.out (fun b _ h => h)) (Xhco4.out.keep XK9.out (fun b _ h => h)) (Xhcr4.out.keep XK9.out (fun b _ h => h)) hPk (by omega) Xhla.out).mono ?_
        rintro e W10 ⟨rfl, k10⟩
        have kw10 : Keep (fun k => k < w.heap.size) w W10 := (Xkw4.out.trans (XK9.out.mono fun b _ h => by omega)).trans (k10.mono fun b _ h => by omega)
        clear k10 hPk
        have Xkw10 := Lib.hid kw10
        clear kw10
        go_wp2_with fail
        refine (known_any _).mono ?_
        rintro e W12 ⟨rfl, k12⟩
        have kw12 : Keep (fun k => k < w.heap.size) w W12 := Xkw10.out.trans (k12.mono fun b _ h => by have := Xkw10.out.size; omega)
        clear k12
        have Xkw12 := Lib.hid kw12
        clear kw12
        go_wp2_with fail
        go_ret
        exact ⟨rfl, Xkw12.out⟩
end Go.Proofs
