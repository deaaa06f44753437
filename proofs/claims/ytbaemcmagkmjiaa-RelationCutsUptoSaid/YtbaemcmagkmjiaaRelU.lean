/- Layer 4, the program's relation: Match's iterator. -/
import Derived.Test.YtbaemcmagkmjiaaProg
import Derived.Test.YtbaemcmagkmjiaaRelT
namespace Go.Proofs
open Go.RowKit Go.Ink
set_option linter.unusedVariables false
set_option linter.unusedSimpArgs false
attribute [local go_sem] Oper.semAt_some

theorem gi_appW {F : Fence} {n : Nat} {P : Program} {w w' : World} {ops : Array Oper} {rest : List Oper} {o : Oper} {a : Act} {Q : Exit → Act → World → Prop} {v u v' : Value}
    (hw : Region.wanted o (yielded ops a.tmps) = true) (s x : Operand) (t : TypeId) (hop : o.op = Op.call { callee := Callee.builtin Builtin.append, args := #[s, x], argTypes := #[t, t] }) (hs : a.eval s = v) (hx : a.eval x = u)
    (hrun : (Builtin.append_ #[t, t] o.type #[v, u]).run P w = .ok v' w') (hK : wpListIn F n P ops Q rest (a.put o.dst v') w') : wpListIn F n P ops Q (o :: rest) a w := by
  unfold wpListIn
  rw [if_pos hw]
  unfold Oper.wpIn
  refine ⟨?_, ?_⟩
  · simp [Oper.about, hop, resolve, Target.leads, Sem.run_pure]
  · rw [Oper.semAt_plain F _ _ (by rw [hop]; intro c hc'; cases hc')]
    simp [execOp, hop, resolve, invoke, builtin, hs, hx, hrun, Result.andThen]
    exact hK

theorem skipW {n : Nat} {P : Program} {w : World} {ops : Array Oper} {rest : List Oper} {o : Oper} {a : Act} {Q : Exit → Act → World → Prop}
    (hw : Region.wanted o (yielded ops a.tmps) = false) (h : wpListIn Fence.wide n P ops Q rest (a.put o.dst undef) w) : wpListIn Fence.wide n P ops Q (o :: rest) a w := by
  unfold wpListIn
  rw [if_neg (by rw [hw]; simp)]
  exact ⟨fun _ _ => trivial, h⟩

/-- the places that a range over Match goes through -/
structure PlacesAt (s : RelS) (n : Nat) (cols key : List Int) (lo hi : Int) (pl : List Nat) (v : Value) : Prop where
  told : matchD n s.ts cols key lo hi = pl.filter (inLH lo hi)
  sort : pl.Pairwise (· < ·)
  few : pl.length ≤ s.ts.length
  good : ∀ (j i : Nat), pl[j]? = some i → rowD n cols = true ∧ i < s.ts.length ∧ (idx s.ts cols (padK key))[j]? = some i ∧ ∃ b c p, v = .slice (some ⟨b, 0, none⟩) pl.length c ∧ s.tag b = some (.ent (maskOf cols) (padK key) p) ∧ pl.length ≤ p
theorem PlacesAt.read {B n P KM : Nat} {s0 s : RelS} {w : World} {cols key : List Int} {lo hi : Int} {pl : List Nat} {v : Value} {m : Nat} (h : PlacesAt s0 n cols key lo hi pl v) (hb : RelBd s0 m s) (hinv : RelInv B n P KM s w) {j i : Nat} (hj : pl[j]? = some i) :
    ∃ b c t, v = .slice (some ⟨b, 0, none⟩) pl.length c ∧ w.cell? ⟨b, j, none⟩ = some (.int .i64 (i : Int)) ∧ s0.ts[i]? = some t ∧ s.ts[i]? = some t := by
  obtain ⟨hrow, hil, hidx, b, c, p, hv, htag, hp⟩ := h.good j i hj
  obtain ⟨us, hus⟩ := hb.more
  have hjl := (List.getElem?_eq_some_iff.1 hj).1
  obtain ⟨t, ht⟩ : ∃ t, s0.ts[i]? = some t := ⟨_, List.getElem?_eq_getElem hil⟩
  refine ⟨b, c, t, hv, ?_, ht, by rw [hus, List.getElem?_append_left hil]; exact ht⟩
  have htag' : ∃ q, s.tag b = some (.ent (maskOf cols) (padK key) q) ∧ p ≤ q := by
    rcases hb.le b _ htag with h1 | ⟨c1, k1, p1, q1, e1, h1, h2⟩
    · exact ⟨p, h1, Nat.le_refl _⟩
    · cases e1; exact ⟨q1, h1, h2⟩
  obtain ⟨q, hq, hpq⟩ := htag'
  obtain ⟨L, hL⟩ := hinv.own.ents b (maskOf cols) (by rw [hq]; rfl)
  obtain ⟨l', vl, M, mm, hLA⟩ := hinv.own.looks _ _ hL
  have hl : l' = cols := rows_same hLA.row hrow hinv.own.n16 hLA.mask
  subst hl
  obtain ⟨i', h1, h2⟩ := hLA.blocks b _ q hq j (by omega)
  have h3 := idx_more s0.ts us l' (padK key) hidx
  rw [hus, h3] at h1
  cases h1
  exact h2

set_option maxRecDepth 100000 in
set_option maxHeartbeats 4000000 in
theorem relMatch_iter (B n P KM n0 n1 bR bL bK bT bF : Nat) (vl vk : Value) (lo hi : Int) (cols key : List Int) (hok : okT key) (hcl : cols.length ≤ 1073741824) (hkl : key.length ≤ 1073741824) :
    IterG Try.prog 32 #[.pointer (some ⟨bR, 0, none⟩), .pointer (some ⟨bL, 0, none⟩), .pointer (some ⟨bK, 0, none⟩), .pointer (some ⟨bT, 0, none⟩), .pointer (some ⟨bF, 0, none⟩)] (relSys B n P KM) (fun s => (matchD n s.ts cols key lo hi).length)
    (fun s0 k s m X args => ∃ i t, (matchD n s0.ts cols key lo hi)[k]? = some i ∧ s0.ts[i]? = some t ∧ Told i t m X args) (MatchV n0 n1 bR bL bK bT bF B vl vk lo hi cols key) (fun b => n0 ≤ b ∧ b < n1) := by
  intro l J Jx W s0 hl hinv hV hU hJ hJx hround h0
  refine calls_of0 Try.func32 rfl ?_
  simp only [Try.ntmps32, List.size_toArray, List.length_cons, List.length_nil, Nat.reduceAdd, Nat.reduceSub, Array.replicate_succ, Array.replicate_zero, List.push_toArray, List.append_toArray, List.nil_append, List.cons_append]
  have cR := hV.r.cell
  have cL := hV.l.cell
  have cK := hV.k.cell
  have lR := hV.r.lt
  have lL := hV.l.lt
  have lK := hV.k.lt
  have hfk : FreeOf s0.tag vk := fun a n' c' e => hU _ ⟨(World.ownsRow.lt hV.ok _ (by rw [e]; rfl)).1, hV.bk _ (by rw [e]; rfl)⟩
  have hfew := hinv.few
  have hfd := found_any hinv.own (by omega) W.heap.size vl vk cols key (own_ints hV.ol hcl) (own_ints hV.ok hkl) (Nat.le_refl _) hok hfk
  clear hfk
  obtain ⟨a1, c1, rfl⟩ := own_form hV.ol
  obtain ⟨a2, c2, rfl⟩ := own_form hV.ok
  have Xhinv := Lib.hid hinv
  have XhV := Lib.hid hV
  have XhU := Lib.hid hU
  have XhJ := Lib.hid hJ
  have XhJx := Lib.hid hJx
  have Xhround := Lib.hid hround
  have Xh0 := Lib.hid h0
  have Xhfd := Lib.hid hfd
  clear hinv hV hU hJ hJx hround h0 hfd
  gi_wp2
  refine ⟨trivial, rfl, (callsIn_wide.2 Xhfd.out).mono ?_⟩
  rintro e W1 ⟨v, tag1, lm1, rfl, k1, hG1, hle1, hnew1, hsub1, hF, hnil⟩
  obtain ⟨s1, hs1⟩ : ∃ s1 : RelS, s1 = ⟨tag1, s0.ts, s0.vD, lm1⟩ := ⟨_, rfl⟩
  have hinv1 : RelInv B n P KM s1 W1 := by rw [hs1]; exact ⟨hG1, hfew⟩
  have hist : RelIt B n P KM s0 W s1 W1 := by rw [hs1] at hinv1 ⊢; exact ⟨k1, rfl, hle1, hnew1, hsub1, hinv1⟩
  have hJ1 : J 0 s1 W1 := XhJ.out 0 s0 W s1 W1 Xh0.out hist
  have hV1 := XhV.out.keep k1 (fun b h1 h2 => XhU.out b ⟨h1, h2⟩)
  have hts1 : s1.ts = s0.ts := by rw [hs1]
  have hz1 := k1.size
  obtain ⟨pl, av, cv, hv, hpl⟩ : ∃ (pl : List Nat) (av : Option Addr) (cv : Nat), v = .slice av pl.length cv ∧ PlacesAt s1 n cols key lo hi pl v := by
    cases hg : (rowD n cols && decide (key.length = cols.length)) with
    | false =>
      refine ⟨[], none, 0, hnil hg, ⟨by rw [match_bad hg]; rfl, List.Pairwise.nil, Nat.zero_le _, fun j i hj => by simp at hj⟩⟩
    | true =>
      simp only [Bool.and_eq_true, decide_eq_true_eq] at hg
      obtain ⟨⟨ho, hb⟩, L, hL⟩ := hF hg.1 hg.2
      obtain ⟨av, cv, rfl⟩ := own_form ho
      refine ⟨idx s0.ts cols (padK key), av, cv, rfl, ⟨?_, idx_sorted _ _ _, by rw [hts1]; exact idx_len _ _ _, fun j i hj => ⟨hg.1, by rw [hts1]; exact idx_lt hj, by rw [hts1]; exact hj, ?_⟩⟩⟩
      · rw [hts1]; exact match_idx hG1.n16 hG1.len hg.1 hg.2
      · rcases ho.2 with ⟨e1, e2⟩ | ⟨g, cap, cur, e1, e2, e3, e4, e5, _⟩
        · have := (List.getElem?_eq_some_iff.1 hj).1; omega
        · injection e1 with q1 q2 q3
          subst q1
          exact ⟨g, cv, _, rfl, by rw [hs1]; exact hb g rfl, Nat.le_refl _⟩
  subst hv
  have hNl : (matchD n s0.ts cols key lo hi).length = (pl.filter (inLH lo hi)).length := by rw [← hts1, hpl.told]
  have hpll : pl.length ≤ 67108864 := Nat.le_trans hpl.few hinv1.few
  clear hs1 hG1 hle1 hnew1 hsub1 hF hnil k1 cR cL cK lR lL lK hfew
  have Xhinv1 := Lib.hid hinv1
  have Xhist := Lib.hid hist
  have XhJ1 := Lib.hid hJ1
  have XhV1 := Lib.hid hV1
  have Xhts1 := Lib.hid hts1
  have Xhpl := Lib.hid hpl
  have XhNl := Lib.hid hNl
  clear hinv1 hist hJ1 hV1 hts1 hpl hNl
  gi_wp2
  gi_loopw [20] (fun i wr => ∃ (j : Nat) (s : RelS), i = .int .i64 (j : Int) ∧ j ≤ pl.length ∧ J (toldN lo hi pl j) s wr ∧ RelInv B n P KM s wr ∧ MatchV n0 n1 bR bL bK bT bF B (.slice a1 cols.length c1) (.slice a2 key.length c2) lo hi cols key wr ∧ RelBd s1 W.heap.size s ∧ W.heap.size ≤ wr.heap.size) (fun i _ => pl.length - (intOf i).toNat)
  case atStart => exact ⟨0, s1, rfl, Nat.zero_le _, by unfold toldN; exact XhJ1.out, Xhinv1.out, XhV1.out, RelBd.refl _ _, hz1⟩
  case round =>
    obtain ⟨j, s, rfl, hj, hJk, hinvk, hVk, hbd, hsz⟩ := hrel
    by_cases hlt : j < pl.length
    · obtain ⟨i, hi'⟩ : ∃ i, pl[j]? = some i := ⟨_, List.getElem?_eq_getElem hlt⟩
      obtain ⟨b, cb, t, hvb, hcell, ht0, hts⟩ := Xhpl.out.read hbd hinvk hi'
      injection hvb with hav hnn hcc
      clear hnn hcc
      subst hav
      have hbw : b < wr.heap.size := World.block_lt_of_cell? _ _ hcell
      have hlt1 : (j : Int) < pl.length := by omega
      have hj0 : (0 : Int) ≤ j := by omega
      have hj1 : (j : Int) + 1 ≤ 67108864 := by omega
      have cT := hVk.t.cell
      have lT := hVk.t.lt
      by_cases hge : hi ≤ (i : Int)
      · have hend := told_end (lo := lo) (Xhpl.out.sort) hi' hge
        have hJe : J (pl.filter (inLH lo hi)).length s wr := by rw [← hend]; exact hJk
        clear hend hJk ht0 hts hi'
        have XhJe := Lib.hid hJe
        have Xhinvk := Lib.hid hinvk
        have XhVk := Lib.hid hVk
        have Xhbd := Lib.hid hbd
        clear hJe hinvk hVk hbd
        gi_wp2
        refine bodyPost_ret (results_none rfl _ _ _) rfl ?_
        exact ⟨⟨_, rfl⟩, hsz, s, Xhinvk.out, XhVk.out, .inl (by rw [XhNl.out]; exact XhJe.out)⟩
      · have cF := hVk.f.cell
        have lF := hVk.f.lt
        by_cases hfr : lo ≤ (i : Int)
        · have hyes := told_yes hi' (lo := lo) (hi := hi) (by unfold inLH; rw [decide_eq_true hfr, decide_eq_true (by omega)]; rfl)
          obtain ⟨hnth, hnext⟩ := hyes
          have hkN : toldN lo hi pl j < (matchD n s0.ts cols key lo hi).length := by rw [XhNl.out]; exact (List.getElem?_eq_some_iff.1 hnth).1
          have hnth2 : (matchD n s0.ts cols key lo hi)[toldN lo hi pl j]? = some i := by rw [← Xhts1.out, Xhpl.out.told]; exact hnth
          have ht00 : s0.ts[i]? = some t := by rw [← Xhts1.out]; exact ht0
          have hfewk := hinvk.few
          have hil : i < s.ts.length := (List.getElem?_eq_some_iff.1 hts).1
          have hib : (i : Int) ≤ 67108864 := by omega
          have hi0 : (0 : Int) ≤ i := by omega
          have hBr := heap_lt hinvk.own.box
          obtain ⟨W2, hW2⟩ : ∃ W2, wr.alloc (.cells #[] 3) = W2 := ⟨_, rfl⟩
          have k1 : Keep (fun _ => True) wr W2 := by rw [← hW2]; exact Keep.alloc _ _ _
          have ho1 : W2.ownsRow wr.heap.size 3 1 (.slice (some ⟨wr.heap.size, 0, none⟩) 0 0) 0 [] := by rw [← hW2]; exact World.ownsRow_made wr #[] 0 (Nat.le_refl _) (by simp [maxLen]) rfl
          have hinv2 := hinvk.keep (k1.mono fun _ _ _ => trivial)
          have cR2 := (hVk.keep k1 (fun _ _ _ => trivial)).r.cell
          have lR2 : bR < W2.heap.size := World.block_lt_of_cell? _ _ cR2
          have htup := tuple_any hinv2.own (by omega) i t hts
          clear hi' ht0 hts hnth
          have XhJk := Lib.hid hJk
          have Xhinvk := Lib.hid hinvk
          have XhVk := Lib.hid hVk
          have Xhbd := Lib.hid hbd
          have Xk1 := Lib.hid k1
          have Xho1 := Lib.hid ho1
          have Xhinv2 := Lib.hid hinv2
          have Xhtup := Lib.hid htup
          have XhkN := Lib.hid hkN
          have Xhnth2 := Lib.hid hnth2
          have Xht00 := Lib.hid ht00
          have Xhnext := Lib.hid hnext
          clear hJk hinvk hVk hbd k1 ho1 hinv2 htup hkN hnth2 ht00 hnext
          gi_wp2
          refine ⟨trivial, rfl, (callsIn_wide.2 Xhtup.out).mono ?_⟩
          rintro e W3 ⟨vt, rfl, k3, z3, hvt, htl⟩
          have ho3 := own_kept Xho1.out k3 (fun _ _ => trivial)
          have hvt3 := ints_stay hvt (m := W2.heap.size) (k3.mono fun _ _ _ => trivial) (Nat.le_refl _)
          obtain ⟨at', ct', rfl, hlt', hct', het'⟩ := id hvt3
          have hclt := slice_cells (sz := 1) ic (fun _ => rfl) (by omega) (E := IntE) (fun b o x h j u hj => by
            have hj0 : j = 0 := by have := (List.getElem?_eq_some_iff.1 hj).1; simp [ic] at this; exact this
            subst hj0
            simp [ic] at hj
            subst hj
            exact h) hvt3 rfl
          have hz13 : wr.heap.size ≤ W3.heap.size := by have := Xk1.out.size; omega
          obtain ⟨va, W4, hr4, ho4, hg4, kw4⟩ := appA (P := Try.prog) el_int 23 ho3 at' t.length ct' (t.flatMap ic) (flatMap_len _ 1 (fun _ => rfl) _) hclt.1 hclt.2 (flat_one _ (by simp [ic, Value.oneCell']) _) (by omega) hz13
          rw [ic_map, List.nil_append, Nat.zero_add] at ho4
          have k04 : Keep (fun _ => True) wr W4 := ((Xk1.out.mono fun _ _ _ => trivial).trans ((k3.mono fun _ _ _ => trivial).trans (kw4.mono (C' := fun b => b < wr.heap.size) fun b _ h e => by have := (World.ownsRow.lt ho4 b e).1; omega))).mono (fun b hb _ => hb)
          have hinv4 := Xhinvk.out.keep (k04.mono fun _ _ _ => trivial)
          have hV4 := XhVk.out.keep k04 (fun _ _ _ => trivial)
          obtain ⟨fn, tmps, assign, body, hy, hR⟩ := Xhround.out (toldN lo hi pl j) s wr W4 #[.int .i64 (i : Int), va] XhkN.out XhJk.out (relIt_keep Xhinvk.out k04) hinv4 hV4 hsz ⟨i, t, Xhnth2.out, Xht00.out, va, rfl, ho4, hlt'⟩
          have hR' := Lib.hid hR
          clear hR hvt hvt3 het' hclt ho3 hg4 kw4 htl ho4
          have k3' := Lib.hid k3
          have hinv4' := Lib.hid hinv4
          have hV4' := Lib.hid hV4
          have hz4 : W.heap.size ≤ W4.heap.size := by have := k04.size; omega
          have k04' := Lib.hid k04
          clear k3 hinv4 hV4 k04
          have Xhr4 := Lib.hid hr4
          clear hr4
          gi_wp2_with (gi_at_builtin; refine gi_appW (v := .slice (some ⟨wr.heap.size, 0, none⟩) 0 0) (u := .slice at' t.length ct') (v' := va) (w' := W4) (by rfl) (.tmp 33) (.tmp 36) 23 rfl rfl rfl Xhr4.out ?_)
          refine ⟨rfl, hR'.out.mono ?_⟩
          rintro e Y ⟨s', hinvY, hVY, hbdY, hzY, (⟨rfl, hJY⟩ | ⟨rfl, hJY⟩)⟩
          all_goals
            have hbd' : RelBd s1 W.heap.size s' := Xhbd.out.trans hbdY hz4
            clear hbdY hR' hy
            have XhinvY := Lib.hid hinvY
            have XhVY := Lib.hid hVY
            have XhJY := Lib.hid hJY
            have Xhbd' := Lib.hid hbd'
            clear hinvY hVY hJY hbd'
            gi_wp2
          · go_roundw
            case rel => exact ⟨j + 1, s', by go_num, by omega, by rw [Xhnext.out]; exact XhJY.out, XhinvY.out, XhVY.out, Xhbd'.out, by omega⟩
            case measure => simp [intOf]; omega
          · refine bodyPost_ret (results_none rfl _ _ _) rfl ?_
            exact ⟨⟨_, rfl⟩, by omega, s', XhinvY.out, XhVY.out, .inr ⟨_, XhkN.out, XhJY.out⟩⟩
        · have hno := told_no hi' (lo := lo) (hi := hi) (by unfold inLH; rw [decide_eq_false hfr]; rfl)
          have hJn : J (toldN lo hi pl (j + 1)) s wr := by rw [hno]; exact hJk
          have hng : ¬ ((i : Int) ≥ lo) := hfr
          clear hno hJk hi' ht0 hts
          have XhJn := Lib.hid hJn
          have Xhinvk := Lib.hid hinvk
          have XhVk := Lib.hid hVk
          have Xhbd := Lib.hid hbd
          clear hJn hinvk hVk hbd
          gi_wp2
          refine ⟨trivial, ?_⟩
          rename_i aK
          refine aK _ _ ?_
          clear aK
          try go_frame
          refine skipW (by rfl) ?_
          try go_frame
          refine skipW (by rfl) ?_
          try go_frame
          refine skipW (by rfl) ?_
          try go_frame
          gi_wp2
          go_roundw
          case rel => exact ⟨j + 1, s, by go_num, by omega, XhJn.out, Xhinvk.out, XhVk.out, Xhbd.out, by omega⟩
          case measure => simp [intOf]; omega
    · have hje : j = pl.length := by omega
      have hJe : J (pl.filter (inLH lo hi)).length s wr := by rw [← told_all lo hi pl, ← hje]; exact hJk
      clear hJk hje
      have XhJe := Lib.hid hJe
      have Xhinvk := Lib.hid hinvk
      have XhVk := Lib.hid hVk
      have Xhbd := Lib.hid hbd
      clear hJe hinvk hVk hbd
      gi_wp2
      go_end0
      exact ⟨⟨_, rfl⟩, hsz, s, Xhinvk.out, XhVk.out, .inl (by rw [XhNl.out]; exact XhJe.out)⟩
end Go.Proofs
