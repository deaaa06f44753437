/- Layer 4, the program's relation: Match (its iterator's making; the plain law of its places). -/
import Derived.Test.YtbaemcmagkmjiaaProg
import Derived.Test.YtbaemcmagkmjiaaIterBToRelS
import Derived.Test.YtbaemcmagkmjiaaRelEToRelF
namespace Go.Proofs
open Go.RowKit Go.Ink
set_option linter.unusedVariables false
set_option linter.unusedSimpArgs false
attribute [local go_sem] Oper.semAt_some

/-- in block b one value -/
def BoxAt (w : World) (b t : Nat) (v : Value) : Prop := w.heap[b]? = some (.cells #[v] t (0, 0))
theorem BoxAt.keep {w w' : World} {b t : Nat} {v : Value} {C : Nat → Prop} (h : BoxAt w b t v) (hK : Keep C w w') (hC : C b) : BoxAt w' b t v := hK.heap h hC
theorem BoxAt.cell {w : World} {b t : Nat} {v : Value} (h : BoxAt w b t v) : w.cell? ⟨b, 0, none⟩ = some v := box_cell h
theorem BoxAt.lt {w : World} {b t : Nat} {v : Value} (h : BoxAt w b t v) : b < w.heap.size := heap_lt h

/-- the boxes of Match's own variables, from n0 to n1 -/
structure MatchV (n0 n1 bR bL bK bT bF B : Nat) (vl vk : Value) (lo hi : Int) (cols key : List Int) (w : World) : Prop where
  r : BoxAt w bR 24 (.pointer (some ⟨B, 0, none⟩))
  l : BoxAt w bL 23 vl
  k : BoxAt w bK 23 vk
  t : BoxAt w bT 3 (.int .i64 hi)
  f : BoxAt w bF 3 (.int .i64 lo)
  ol : w.ownsRow n0 3 1 vl cols.length (cols.map (.int .i64))
  ok : w.ownsRow n0 3 1 vk key.length (key.map (.int .i64))
  bl : ∀ b, vl.ownBlock = some b → b < n1
  bk : ∀ b, vk.ownBlock = some b → b < n1
  at' : (n0 ≤ bR ∧ bR < n1) ∧ (n0 ≤ bL ∧ bL < n1) ∧ (n0 ≤ bK ∧ bK < n1) ∧ (n0 ≤ bT ∧ bT < n1) ∧ (n0 ≤ bF ∧ bF < n1)
theorem MatchV.keep {n0 n1 bR bL bK bT bF B : Nat} {vl vk : Value} {lo hi : Int} {cols key : List Int} {w w' : World} {C : Nat → Prop} (h : MatchV n0 n1 bR bL bK bT bF B vl vk lo hi cols key w) (hK : Keep C w w') (hC : ∀ b, n0 ≤ b → b < n1 → C b) : MatchV n0 n1 bR bL bK bT bF B vl vk lo hi cols key w' := by
  obtain ⟨a1, a2, a3, a4, a5⟩ := h.at'
  exact ⟨h.r.keep hK (hC _ a1.1 a1.2), h.l.keep hK (hC _ a2.1 a2.2), h.k.keep hK (hC _ a3.1 a3.2), h.t.keep hK (hC _ a4.1 a4.2), h.f.keep hK (hC _ a5.1 a5.2),
    own_kept h.ol hK (fun b hb => hC b (World.ownsRow.lt h.ol b hb).1 (h.bl b hb)), own_kept h.ok hK (fun b hb => hC b (World.ownsRow.lt h.ok b hb).1 (h.bk b hb)), h.bl, h.bk, h.at'⟩

set_option maxRecDepth 100000 in
set_option maxHeartbeats 2000000 in
theorem relMatch_any (w : World) (B m : Nat) (vc vk : Value) (cols key : List Int) (lo hi : Int) (hs : IntsIn m w vc cols) (hsk : IntsIn m w vk key) (hm : m ≤ w.heap.size) :
    Calls Try.prog 10 #[.pointer (some ⟨B, 0, none⟩), vc, vk, .int .i64 lo, .int .i64 hi] w fun e w' => ∃ bR bL bK bT bF vl vk',
      e = .returned (.func (.func 32) #[] #[.pointer (some ⟨bR, 0, none⟩), .pointer (some ⟨bL, 0, none⟩), .pointer (some ⟨bK, 0, none⟩), .pointer (some ⟨bT, 0, none⟩), .pointer (some ⟨bF, 0, none⟩)]) ∧
      Keep (fun _ => True) w w' ∧ MatchV w.heap.size w'.heap.size bR bL bK bT bF B vl vk' lo hi cols key w' := by
  obtain ⟨a, cc, rfl, hlt, hct, het⟩ := id hs
  obtain ⟨ak, ck, rfl, hltk, hctk, hetk⟩ := id hsk
  obtain ⟨W0, hW0⟩ : ∃ W0, ((w.alloc (.cells #[.pointer (some ⟨B, 0, none⟩)] 24)).alloc (.cells #[.int .i64 lo] 3)).alloc (.cells #[.int .i64 hi] 3) = W0 := ⟨_, rfl⟩
  have k0 : Keep (fun _ => True) w W0 := by rw [← hW0]; exact ((Keep.alloc _ _ _).trans (Keep.alloc _ _ _)).trans (Keep.alloc _ _ _)
  have z0 : W0.heap.size = w.heap.size + 3 := by rw [← hW0]; simp
  have r0 : BoxAt W0 w.heap.size 24 (.pointer (some ⟨B, 0, none⟩)) := by rw [← hW0]; unfold BoxAt; simp only [alloc_get, World.size_alloc]; simp <;> omega
  have f0 : BoxAt W0 (w.heap.size + 1) 3 (.int .i64 lo) := by rw [← hW0]; unfold BoxAt; simp only [alloc_get, World.size_alloc]; simp <;> omega
  have t0 : BoxAt W0 (w.heap.size + 2) 3 (.int .i64 hi) := by rw [← hW0]; unfold BoxAt; simp only [alloc_get, World.size_alloc]; simp <;> omega
  have app0 : ∀ (W : World) (a : Option Addr) (c : Nat) (l : List Int), l.length ≤ 1073741824 → IntsIn m W (.slice a l.length c) l → m ≤ W.heap.size → ∃ a' c' W', (Builtin.append_ #[23, 23] 23 #[.slice (some ⟨W.heap.size, 0, none⟩) 0 0, .slice a l.length c]).run Try.prog (W.alloc (.cells #[] 3)) = .ok (.slice a' l.length c') W' ∧
      W'.ownsRow W.heap.size 3 1 (.slice a' l.length c') l.length (l.map (.int .i64)) ∧ Keep (fun _ => True) W W' := by
    intro W a c l hl hi hmW
    have k1 : Keep (fun _ => True) W (W.alloc (.cells #[] 3)) := Keep.alloc _ _ _
    have ho1 : (W.alloc (.cells #[] 3)).ownsRow W.heap.size 3 1 (.slice (some ⟨W.heap.size, 0, none⟩) 0 0) 0 [] := World.ownsRow_made W #[] 0 (Nat.le_refl _) (by simp [maxLen]) rfl
    have hi1 := ints_stay hi (m := m) (k1.mono fun _ _ _ => trivial) (Nat.le_refl _)
    have hcl := slice_cells (sz := 1) ic (fun _ => rfl) (by omega) (E := IntE) (fun b o x h j u hj => by
      have hj0 : j = 0 := by have := (List.getElem?_eq_some_iff.1 hj).1; simp [ic] at this; exact this
      subst hj0
      simp [ic] at hj
      subst hj
      exact h) hi1 rfl
    obtain ⟨va, W3, hr3, ho3, hg3, kw3⟩ := appA (P := Try.prog) el_int 23 ho1 a l.length c (l.flatMap ic) (flatMap_len _ 1 (fun _ => rfl) _) hcl.1 hcl.2 (flat_one _ (by simp [ic, Value.oneCell']) _) (by omega) (by simp)
    rw [ic_map, List.nil_append, Nat.zero_add] at ho3
    obtain ⟨a', c', rfl⟩ := own_form ho3
    exact ⟨a', c', W3, hr3, ho3, ((k1.mono fun _ _ _ => trivial).trans (kw3.mono (C' := fun b => b < W.heap.size) fun b _ h e => by have := (World.ownsRow.lt ho3 b e).1; omega)).mono fun b hb _ => hb⟩
  have hs0 := ints_stay hs (m := m) (k0.mono fun _ _ _ => trivial) (Nat.le_refl _)
  obtain ⟨al, cl, W2, hr2, ho2, k2⟩ := app0 W0 a cc cols hlt hs0 (by omega)
  have hz2 := k2.size
  have hsk2 := ints_stay (ints_stay hsk (m := m) (k0.mono fun _ _ _ => trivial) (Nat.le_refl _)) (m := m) (k2.mono fun _ _ _ => trivial) (Nat.le_refl _)
  obtain ⟨al', cl', W4, hr4, ho4, k4⟩ := app0 W2 ak ck key hltk hsk2 (by omega)
  have hz4 := k4.size
  obtain ⟨W5, hW5⟩ : ∃ W5, (W4.alloc (.cells #[.slice none 0 0] 23)).alloc (.cells #[.slice none 0 0] 23) = W5 := ⟨_, rfl⟩
  have k5 : Keep (fun _ => True) W4 W5 := by rw [← hW5]; exact (Keep.alloc _ _ _).trans (Keep.alloc _ _ _)
  have z5 : W5.heap.size = W4.heap.size + 2 := by rw [← hW5]; simp
  have l5 : BoxAt W5 W4.heap.size 23 (.slice none 0 0) := by rw [← hW5]; unfold BoxAt; simp only [alloc_get, World.size_alloc]; simp <;> omega
  have v5 : BoxAt W5 (W4.heap.size + 1) 23 (.slice none 0 0) := by rw [← hW5]; unfold BoxAt; simp only [alloc_get, World.size_alloc]; simp <;> omega
  obtain ⟨W6, hW6⟩ : ∃ W6, W5.setCell ⟨W4.heap.size, 0, none⟩ (.slice al cols.length cl) = W6 := ⟨_, rfl⟩
  have l6 : BoxAt W6 W4.heap.size 23 (.slice al cols.length cl) := by rw [← hW6]; exact set_box _ l5
  have k6 : Keep (fun b => b ≠ W4.heap.size) W5 W6 := by rw [← hW6]; exact Keep.setCell _ _ _ (by simp)
  have v6 := v5.keep k6 (by omega)
  obtain ⟨W7, hW7⟩ : ∃ W7, W6.setCell ⟨W4.heap.size + 1, 0, none⟩ (.slice al' key.length cl') = W7 := ⟨_, rfl⟩
  have v7 : BoxAt W7 (W4.heap.size + 1) 23 (.slice al' key.length cl') := by rw [← hW7]; exact set_box _ v6
  have k7 : Keep (fun b => b ≠ W4.heap.size + 1) W6 W7 := by rw [← hW7]; exact Keep.setCell _ _ _ (by simp)
  have l7 := l6.keep k7 (by omega)
  have k47 : Keep (fun b => b < W4.heap.size) W4 W7 := (k5.mono fun _ _ _ => trivial).trans ((k6.mono fun b _ h => by omega).trans (k7.mono fun b _ h => by omega))
  have k07 : Keep (fun _ => True) w W7 := ((k0.mono fun _ _ _ => trivial).trans ((k2.mono fun _ _ _ => trivial).trans ((k4.mono fun _ _ _ => trivial).trans (k47.mono (C' := fun b => b < w.heap.size) fun b _ h => by omega)))).mono fun b hb _ => hb
  have z7 : W7.heap.size = W5.heap.size := by rw [← hW7, ← hW6]; simp [World.setCell]
  have own2 : ∀ b, Value.ownBlock (.slice al cols.length cl) = some b → W0.heap.size ≤ b ∧ b < W2.heap.size := fun b hb => World.ownsRow.lt ho2 b hb
  have own4 : ∀ b, Value.ownBlock (.slice al' key.length cl') = some b → W2.heap.size ≤ b ∧ b < W4.heap.size := fun b hb => World.ownsRow.lt ho4 b hb
  have hV : MatchV w.heap.size W7.heap.size w.heap.size W4.heap.size (W4.heap.size + 1) (w.heap.size + 2) (w.heap.size + 1) B (.slice al cols.length cl) (.slice al' key.length cl') lo hi cols key W7 := by
    have kk : Keep (fun b => b < W0.heap.size) W0 W7 := (k2.mono fun _ _ _ => trivial).trans ((k4.mono fun _ _ _ => trivial).trans (k47.mono fun b _ h => by omega))
    refine ⟨r0.keep kk (by omega), l7, v7, t0.keep kk (by omega), f0.keep kk (by omega), ?_, ?_, fun b hb => by have := own2 b hb; omega, fun b hb => by have := own4 b hb; omega, ⟨by omega, by omega⟩, ⟨by omega, by omega⟩, ⟨by omega, by omega⟩, ⟨by omega, by omega⟩, by omega, by omega⟩
    · have h1 := own_kept (own_kept ho2 k4 (fun _ _ => trivial)) k47 (fun b hb => by have := own2 b hb; omega)
      exact ⟨h1.1, h1.2.imp id (fun ⟨g, cap, cur, e1, e2, e3⟩ => ⟨g, cap, cur, e1, by omega, e3⟩)⟩
    · have h1 := own_kept ho4 k47 (fun b hb => by have := own4 b hb; omega)
      exact ⟨h1.1, h1.2.imp id (fun ⟨g, cap, cur, e1, e2, e3⟩ => ⟨g, cap, cur, e1, by omega, e3⟩)⟩
  have cl5 := l5.cell
  have cfl := box_free l5 0
  have cv6 := v6.cell
  have cfv := box_free v6 0
  obtain ⟨n0, hn0⟩ : ∃ n0, W0.heap.size = n0 := ⟨_, rfl⟩
  have hB4 : W4.heap.size < W5.heap.size := by omega
  have hB6 : W4.heap.size + 1 < W6.heap.size := v6.lt
  clear app0 hs0 ho2 hsk2 ho4 l5 v5 l6 v6 v7 l7 k47 k7 k6 k5 own2 own4 z7 z5 hz2 hz4 k0 k2 k4 r0 f0 t0 z0
  rw [hn0] at hr2
  have Xhs := Lib.hid hs
  have Xhsk := Lib.hid hsk
  have Xhet := Lib.hid het
  have Xhetk := Lib.hid hetk
  have Xhr2 := Lib.hid hr2
  have Xhr4 := Lib.hid hr4
  have XhV := Lib.hid hV
  have Xk07 := Lib.hid k07
  clear hs hsk het hetk hr2 hr4 hV k07
  go_enter Try.func10, Try.ntmps10
  go_wp2_with (first
    | (at_builtin; refine go_app (v := .slice (some ⟨n0, 0, none⟩) 0 0) (u := .slice a cols.length cc) (v' := .slice al cols.length cl) (w' := W2) rfl (.tmp 13) (.tmp 14) 23 rfl rfl rfl Xhr2.out ?_)
    | (at_builtin; refine go_app (v := .slice (some ⟨W2.heap.size, 0, none⟩) 0 0) (u := .slice ak key.length ck) (v' := .slice al' key.length cl') (w' := W4) rfl (.tmp 16) (.tmp 17) 23 rfl rfl rfl Xhr4.out ?_))
  go_ret
  exact ⟨_, _, _, _, _, _, _, rfl, Xk07.out, XhV.out⟩

theorem keyed_cut {n : Nat} {t cols key : List Int} (hn : n ≤ 16) (ht : t.length = n) (hrow : rowD n cols = true) (hk : key.length = cols.length) : keyedD t cols key = decide (cutK t cols = padK key) := by
  have hin := rowD_at hrow
  have hiff : (cutK t cols = padK key) ↔ cutL t cols = key := by
    constructor
    · intro h
      exact pad_inj h (by rw [cutL_len, hk])
    · intro h
      unfold cutK
      rw [h]
  have h2 : keyedD t cols key = true ↔ cutL t cols = key := by
    unfold keyedD
    rw [List.all_eq_true]
    constructor
    · intro h
      apply List.ext_getElem?
      intro j
      by_cases hj : j < cols.length
      · have := h j (by simpa using hj)
        simp only [decide_eq_true_eq] at this
        rw [← this]
        have hc : cols[j]? = some cols[j] := List.getElem?_eq_getElem hj
        have hcm := hin cols[j] (List.getElem_mem hj)
        unfold cutL
        rw [List.getElem?_map, hc, List.getD_eq_getElem?_getD, hc]
        simp only [Option.map_some, Option.getD_some]
        rw [List.getD_eq_getElem?_getD, List.getElem?_eq_getElem (by omega)]
        rfl
      · rw [List.getElem?_eq_none (by rw [cutL_len]; omega), List.getElem?_eq_none (by omega)]
    · rintro rfl j hj
      rw [List.mem_range] at hj
      have hc : cols[j]? = some cols[j] := List.getElem?_eq_getElem hj
      have hcm := hin cols[j] (List.getElem_mem hj)
      unfold cutL
      rw [decide_eq_true_eq, List.getElem?_map, hc, List.getD_eq_getElem?_getD, hc]
      simp only [Option.map_some, Option.getD_some]
      rw [List.getD_eq_getElem?_getD, List.getElem?_eq_getElem (by omega)]
      rfl
  by_cases h : cutL t cols = key
  · rw [h2.2 h, decide_eq_true (hiff.2 h)]
  · rw [decide_eq_false (fun e => h (hiff.1 e)), Bool.eq_false_iff]
    exact fun e => h (h2.1 e)
def inLH (lo hi : Int) (i : Nat) : Bool := decide (lo ≤ (i : Int)) && decide ((i : Int) < hi)
theorem match_idx {n : Nat} {ts : List (List Int)} {cols key : List Int} {lo hi : Int} (hn : n ≤ 16) (hts : ∀ t ∈ ts, t.length = n) (hrow : rowD n cols = true) (hk : key.length = cols.length) : matchD n ts cols key lo hi = (idx ts cols (padK key)).filter (inLH lo hi) := by
  unfold matchD idx
  rw [if_pos (by rw [hrow, decide_eq_true hk]; rfl), List.filter_filter]
  refine List.filter_congr fun i hi2 => ?_
  rw [List.mem_range] at hi2
  unfold hitAt inLH
  rw [keyed_cut hn (hts _ (by rw [List.getD_eq_getElem?_getD, List.getElem?_eq_getElem hi2]; exact List.getElem_mem hi2)) hrow hk]
theorem match_bad {n : Nat} {ts : List (List Int)} {cols key : List Int} {lo hi : Int} (h : (rowD n cols && decide (key.length = cols.length)) = false) : matchD n ts cols key lo hi = [] := by
  unfold matchD
  rw [if_neg (by rw [h]; simp)]
theorem idx_more (ts us : List (List Int)) (l k : List Int) {j i : Nat} (h : (idx ts l k)[j]? = some i) : (idx (ts ++ us) l k)[j]? = some i := by
  induction us generalizing ts with
  | nil => simpa using h
  | cons u us ih =>
    rw [← List.singleton_append, ← List.append_assoc]
    refine ih (ts ++ [u]) ?_
    rw [idx_add, List.getElem?_append_left (List.getElem?_eq_some_iff.1 h).1]
    exact h
theorem idx_lt {ts : List (List Int)} {l k : List Int} {j i : Nat} (h : (idx ts l k)[j]? = some i) : i < ts.length := by
  have := List.mem_of_getElem? h
  unfold idx at this
  rw [List.mem_filter, List.mem_range] at this
  exact this.1
theorem idx_sorted (ts : List (List Int)) (l k : List Int) : (idx ts l k).Pairwise (· < ·) := List.Pairwise.filter _ List.pairwise_lt_range
/-- the turns: what is told ahead of place j -/
def toldN (lo hi : Int) (pl : List Nat) (j : Nat) : Nat := ((pl.take j).filter (inLH lo hi)).length
theorem told_split (lo hi : Int) (pl : List Nat) {j i : Nat} (hj : pl[j]? = some i) : pl.filter (inLH lo hi) = (pl.take j).filter (inLH lo hi) ++ ((if inLH lo hi i = true then [i] else []) ++ (pl.drop (j + 1)).filter (inLH lo hi)) := by
  have hlt := (List.getElem?_eq_some_iff.1 hj).1
  have hg := (List.getElem?_eq_some_iff.1 hj).2
  conv => lhs; rw [← List.take_append_drop j pl, List.drop_eq_getElem_cons hlt, hg]
  rw [List.filter_append, List.filter_cons]
  split <;> simp
theorem told_yes {lo hi : Int} {pl : List Nat} {j i : Nat} (hj : pl[j]? = some i) (h : inLH lo hi i = true) : (pl.filter (inLH lo hi))[toldN lo hi pl j]? = some i ∧ toldN lo hi pl (j + 1) = toldN lo hi pl j + 1 := by
  constructor
  · rw [told_split lo hi pl hj, if_pos h]
    unfold toldN
    rw [List.getElem?_append_right (Nat.le_refl _), Nat.sub_self]
    rfl
  · unfold toldN
    rw [List.take_add_one, hj, List.filter_append]
    simp [h]
theorem told_no {lo hi : Int} {pl : List Nat} {j i : Nat} (hj : pl[j]? = some i) (h : inLH lo hi i = false) : toldN lo hi pl (j + 1) = toldN lo hi pl j := by
  unfold toldN
  rw [List.take_add_one, hj, List.filter_append]
  simp [h]
theorem told_end {lo hi : Int} {pl : List Nat} (hs : pl.Pairwise (· < ·)) {j i : Nat} (hj : pl[j]? = some i) (h : hi ≤ (i : Int)) : toldN lo hi pl j = (pl.filter (inLH lo hi)).length := by
  have hlt := (List.getElem?_eq_some_iff.1 hj).1
  have hg := (List.getElem?_eq_some_iff.1 hj).2
  have h0 : inLH lo hi i = false := by unfold inLH; rw [decide_eq_false (by omega : ¬ (i : Int) < hi), Bool.and_false]
  rw [told_split lo hi pl hj, h0]
  have h1 : (pl.drop (j + 1)).filter (inLH lo hi) = [] := by
    refine List.filter_eq_nil_iff.2 fun x hx => ?_
    obtain ⟨q, hq⟩ := List.mem_iff_getElem?.1 hx
    rw [List.getElem?_drop] at hq
    have hq1 := (List.getElem?_eq_some_iff.1 hq).1
    have hq2 := (List.getElem?_eq_some_iff.1 hq).2
    have := (List.pairwise_iff_getElem.1 hs) j (j + 1 + q) hlt hq1 (by omega)
    rw [hg, hq2] at this
    unfold inLH
    rw [decide_eq_false (by omega : ¬ (x : Int) < hi), Bool.and_false]
    simp
  rw [h1]
  unfold toldN
  simp
theorem told_all (lo hi : Int) (pl : List Nat) : toldN lo hi pl pl.length = (pl.filter (inLH lo hi)).length := by unfold toldN; rw [List.take_length]
end Go.Proofs

/- Layer 4, the program's relation: Match's iterator. -/
namespace Go.Proofs
open Go.RowKit Go.Ink
set_option linter.unusedVariables false
set_option linter.unusedSimpArgs false
attribute [local go_sem] Oper.semAt_some

theorem gi_appW {F : Fence} {n : Nat} {P : Program} {w w' : World} {ops : Array Oper} {rest : List Oper} {o : Oper} {a : Act} {Q : Exit → Act → World → Prop} {v u v' : Value}
    (hw : Region.wanted o (yielded ops a.tmps) = true) (s x : Operand) (t : TypeId) (hop : o.op = Op.call { callee := Callee.builtin Builtin.append, args := #[s, x], argTypes := #[t, t] }) (hs : a.eval s = v) (hx : a.eval x = u)
    (hrun : (Builtin.append_ #[t, t] o.type #[v, u]).run P w = .ok v' w') (hK : wpListIn F n P ops Q rest (a.put o.dst v') w') : wpListIn F n P ops Q (o :: rest) a w := by
  unfold wpListIn
  rw [if_pos hw]
  unfold Oper.wpIn
  refine ⟨?_, ?_⟩
  · simp [Oper.about, hop, resolve, Target.leads, Sem.run_pure]
  · rw [Oper.semAt_plain F _ _ (by rw [hop]; intro c hc'; cases hc')]
    simp [execOp, hop, resolve, invoke, builtin, hs, hx, hrun, Result.andThen]
    exact hK

theorem skipW {n : Nat} {P : Program} {w : World} {ops : Array Oper} {rest : List Oper} {o : Oper} {a : Act} {Q : Exit → Act → World → Prop}
    (hw : Region.wanted o (yielded ops a.tmps) = false) (h : wpListIn Fence.wide n P ops Q rest (a.put o.dst undef) w) : wpListIn Fence.wide n P ops Q (o :: rest) a w := by
  unfold wpListIn
  rw [if_neg (by rw [hw]; simp)]
  exact ⟨fun _ _ => trivial, h⟩

/-- the places that a range over Match goes through -/
structure PlacesAt (s : RelS) (n : Nat) (cols key : List Int) (lo hi : Int) (pl : List Nat) (v : Value) : Prop where
  told : matchD n s.ts cols key lo hi = pl.filter (inLH lo hi)
  sort : pl.Pairwise (· < ·)
  few : pl.length ≤ s.ts.length
  good : ∀ (j i : Nat), pl[j]? = some i → rowD n cols = true ∧ i < s.ts.length ∧ (idx s.ts cols (padK key))[j]? = some i ∧ ∃ b c p, v = .slice (some ⟨b, 0, none⟩) pl.length c ∧ s.tag b = some (.ent (maskOf cols) (padK key) p) ∧ pl.length ≤ p
theorem PlacesAt.read {B n P KM : Nat} {s0 s : RelS} {w : World} {cols key : List Int} {lo hi : Int} {pl : List Nat} {v : Value} {m : Nat} (h : PlacesAt s0 n cols key lo hi pl v) (hb : RelBd s0 m s) (hinv : RelInv B n P KM s w) {j i : Nat} (hj : pl[j]? = some i) :
    ∃ b c t, v = .slice (some ⟨b, 0, none⟩) pl.length c ∧ w.cell? ⟨b, j, none⟩ = some (.int .i64 (i : Int)) ∧ s0.ts[i]? = some t ∧ s.ts[i]? = some t := by
  obtain ⟨hrow, hil, hidx, b, c, p, hv, htag, hp⟩ := h.good j i hj
  obtain ⟨us, hus⟩ := hb.more
  have hjl := (List.getElem?_eq_some_iff.1 hj).1
  obtain ⟨t, ht⟩ : ∃ t, s0.ts[i]? = some t := ⟨_, List.getElem?_eq_getElem hil⟩
  refine ⟨b, c, t, hv, ?_, ht, by rw [hus, List.getElem?_append_left hil]; exact ht⟩
  have htag' : ∃ q, s.tag b = some (.ent (maskOf cols) (padK key) q) ∧ p ≤ q := by
    rcases hb.le b _ htag with h1 | ⟨c1, k1, p1, q1, e1, h1, h2⟩
    · exact ⟨p, h1, Nat.le_refl _⟩
    · cases e1; exact ⟨q1, h1, h2⟩
  obtain ⟨q, hq, hpq⟩ := htag'
  obtain ⟨L, hL⟩ := hinv.own.ents b (maskOf cols) (by rw [hq]; rfl)
  obtain ⟨l', vl, M, mm, hLA⟩ := hinv.own.looks _ _ hL
  have hl : l' = cols := rows_same hLA.row hrow hinv.own.n16 hLA.mask
  subst hl
  obtain ⟨i', h1, h2⟩ := hLA.blocks b _ q hq j (by omega)
  have h3 := idx_more s0.ts us l' (padK key) hidx
  rw [hus, h3] at h1
  cases h1
  exact h2

set_option maxRecDepth 100000 in
set_option maxHeartbeats 4000000 in
theorem relMatch_iter (B n P KM n0 n1 bR bL bK bT bF : Nat) (vl vk : Value) (lo hi : Int) (cols key : List Int) (hok : okT key) (hcl : cols.length ≤ 1073741824) (hkl : key.length ≤ 1073741824) :
    IterG Try.prog 32 #[.pointer (some ⟨bR, 0, none⟩), .pointer (some ⟨bL, 0, none⟩), .pointer (some ⟨bK, 0, none⟩), .pointer (some ⟨bT, 0, none⟩), .pointer (some ⟨bF, 0, none⟩)] (relSys B n P KM) (fun s => (matchD n s.ts cols key lo hi).length)
    (fun s0 k s m X args => ∃ i t, (matchD n s0.ts cols key lo hi)[k]? = some i ∧ s0.ts[i]? = some t ∧ Told i t m X args) (MatchV n0 n1 bR bL bK bT bF B vl vk lo hi cols key) (fun b => n0 ≤ b ∧ b < n1) := by
  intro l J Jx W s0 hl hinv hV hU hJ hJx hround h0
  refine calls_of0 Try.func32 rfl ?_
  simp only [Try.ntmps32, List.size_toArray, List.length_cons, List.length_nil, Nat.reduceAdd, Nat.reduceSub, Array.replicate_succ, Array.replicate_zero, List.push_toArray, List.append_toArray, List.nil_append, List.cons_append]
  have cR := hV.r.cell
  have cL := hV.l.cell
  have cK := hV.k.cell
  have lR := hV.r.lt
  have lL := hV.l.lt
  have lK := hV.k.lt
  have hfk : FreeOf s0.tag vk := fun a n' c' e => hU _ ⟨(World.ownsRow.lt hV.ok _ (by rw [e]; rfl)).1, hV.bk _ (by rw [e]; rfl)⟩
  have hfew := hinv.few
  have hfd := found_any hinv.own (by omega) W.heap.size vl vk cols key (own_ints hV.ol hcl) (own_ints hV.ok hkl) (Nat.le_refl _) hok hfk
  clear hfk
  obtain ⟨a1, c1, rfl⟩ := own_form hV.ol
  obtain ⟨a2, c2, rfl⟩ := own_form hV.ok
  have Xhinv := Lib.hid hinv
  have XhV := Lib.hid hV
  have XhU := Lib.hid hU
  have XhJ := Lib.hid hJ
  have XhJx := Lib.hid hJx
  have Xhround := Lib.hid hround
  have Xh0 := Lib.hid h0
  have Xhfd := Lib.hid hfd
  clear hinv hV hU hJ hJx hround h0 hfd
  gi_wp2
  refine ⟨trivial, rfl, (callsIn_wide.2 Xhfd.out).mono ?_⟩
  rintro e W1 ⟨v, tag1, lm1, rfl, k1, hG1, hle1, hnew1, hsub1, hF, hnil⟩
  obtain ⟨s1, hs1⟩ : ∃ s1 : RelS, s1 = ⟨tag1, s0.ts, s0.vD, lm1⟩ := ⟨_, rfl⟩
  have hinv1 : RelInv B n P KM s1 W1 := by rw [hs1]; exact ⟨hG1, hfew⟩
  have hist : RelIt B n P KM s0 W s1 W1 := by rw [hs1] at hinv1 ⊢; exact ⟨k1, rfl, hle1, hnew1, hsub1, hinv1⟩
  have hJ1 : J 0 s1 W1 := XhJ.out 0 s0 W s1 W1 Xh0.out hist
  have hV1 := XhV.out.keep k1 (fun b h1 h2 => XhU.out b ⟨h1, h2⟩)
  have hts1 : s1.ts = s0.ts := by rw [hs1]
  have hz1 := k1.size
  obtain ⟨pl, av, cv, hv, hpl⟩ : ∃ (pl : List Nat) (av : Option Addr) (cv : Nat), v = .slice av pl.length cv ∧ PlacesAt s1 n cols key lo hi pl v := by
    cases hg : (rowD n cols && decide (key.length = cols.length)) with
    | false =>
      refine ⟨[], none, 0, hnil hg, ⟨by rw [match_bad hg]; rfl, List.Pairwise.nil, Nat.zero_le _, fun j i hj => by simp at hj⟩⟩
    | true =>
      simp only [Bool.and_eq_true, decide_eq_true_eq] at hg
      obtain ⟨⟨ho, hb⟩, L, hL⟩ := hF hg.1 hg.2
      obtain ⟨av, cv, rfl⟩ := own_form ho
      refine ⟨idx s0.ts cols (padK key), av, cv, rfl, ⟨?_, idx_sorted _ _ _, by rw [hts1]; exact idx_len _ _ _, fun j i hj => ⟨hg.1, by rw [hts1]; exact idx_lt hj, by rw [hts1]; exact hj, ?_⟩⟩⟩
      · rw [hts1]; exact match_idx hG1.n16 hG1.len hg.1 hg.2
      · rcases ho.2 with ⟨e1, e2⟩ | ⟨g, cap, cur, e1, e2, e3, e4, e5, _⟩
        · have := (List.getElem?_eq_some_iff.1 hj).1; omega
        · injection e1 with q1 q2 q3
          subst q1
          exact ⟨g, cv, _, rfl, by rw [hs1]; exact hb g rfl, Nat.le_refl _⟩
  subst hv
  have hNl : (matchD n s0.ts cols key lo hi).length = (pl.filter (inLH lo hi)).length := by rw [← hts1, hpl.told]
  have hpll : pl.length ≤ 67108864 := Nat.le_trans hpl.few hinv1.few
  clear hs1 hG1 hle1 hnew1 hsub1 hF hnil k1 cR cL cK lR lL lK hfew
  have Xhinv1 := Lib.hid hinv1
  have Xhist := Lib.hid hist
  have XhJ1 := Lib.hid hJ1
  have XhV1 := Lib.hid hV1
  have Xhts1 := Lib.hid hts1
  have Xhpl := Lib.hid hpl
  have XhNl := Lib.hid hNl
  clear hinv1 hist hJ1 hV1 hts1 hpl hNl
  gi_wp2
  gi_loopw [20] (fun i wr => ∃ (j : Nat) (s : RelS), i = .int .i64 (j : Int) ∧ j ≤ pl.length ∧ J (toldN lo hi pl j) s wr ∧ RelInv B n P KM s wr ∧ MatchV n0 n1 bR bL bK bT bF B (.slice a1 cols.length c1) (.slice a2 key.length c2) lo hi cols key wr ∧ RelBd s1 W.heap.size s ∧ W.heap.size ≤ wr.heap.size) (fun i _ => pl.length - (intOf i).toNat)
  case atStart => exact ⟨0, s1, rfl, Nat.zero_le _, by unfold toldN; exact XhJ1.out, Xhinv1.out, XhV1.out, RelBd.refl _ _, hz1⟩
  case round =>
    obtain ⟨j, s, rfl, hj, hJk, hinvk, hVk, hbd, hsz⟩ := hrel
    by_cases hlt : j < pl.length
    · obtain ⟨i, hi'⟩ : ∃ i, pl[j]? = some i := ⟨_, List.getElem?_eq_getElem hlt⟩
      obtain ⟨b, cb, t, hvb, hcell, ht0, hts⟩ := Xhpl.out.read hbd hinvk hi'
      injection hvb with hav hnn hcc
      clear hnn hcc
      subst hav
      have hbw : b < wr.heap.size := World.block_lt_of_cell? _ _ hcell
      have hlt1 : (j : Int) < pl.length := by omega
      have hj0 : (0 : Int) ≤ j := by omega
      have hj1 : (j : Int) + 1 ≤ 67108864 := by omega
      have cT := hVk.t.cell
      have lT := hVk.t.lt
      by_cases hge : hi ≤ (i : Int)
      · have hend := told_end (lo := lo) (Xhpl.out.sort) hi' hge
        have hJe : J (pl.filter (inLH lo hi)).length s wr := by rw [← hend]; exact hJk
        clear hend hJk ht0 hts hi'
        have XhJe := Lib.hid hJe
        have Xhinvk := Lib.hid hinvk
        have XhVk := Lib.hid hVk
        have Xhbd := Lib.hid hbd
        clear hJe hinvk hVk hbd
        gi_wp2
        refine bodyPost_ret (results_none rfl _ _ _) rfl ?_
        exact ⟨⟨_, rfl⟩, hsz, s, Xhinvk.out, XhVk.out, .inl (by rw [XhNl.out]; exact XhJe.out)⟩
      · have cF := hVk.f.cell
        have lF := hVk.f.lt
        by_cases hfr : lo ≤ (i : Int)
        · have hyes := told_yes hi' (lo := lo) (hi := hi) (by unfold inLH; rw [decide_eq_true hfr, decide_eq_true (by omega)]; rfl)
          obtain ⟨hnth, hnext⟩ := hyes
          have hkN : toldN lo hi pl j < (matchD n s0.ts cols key lo hi).length := by rw [XhNl.out]; exact (List.getElem?_eq_some_iff.1 hnth).1
          have hnth2 : (matchD n s0.ts cols key lo hi)[toldN lo hi pl j]? = some i := by rw [← Xhts1.out, Xhpl.out.told]; exact hnth
          have ht00 : s0.ts[i]? = some t := by rw [← Xhts1.out]; exact ht0
          have hfewk := hinvk.few
          have hil : i < s.ts.length := (List.getElem?_eq_some_iff.1 hts).1
          have hib : (i : Int) ≤ 67108864 := by omega
          have hi0 : (0 : Int) ≤ i := by omega
          have hBr := heap_lt hinvk.own.box
          obtain ⟨W2, hW2⟩ : ∃ W2, wr.alloc (.cells #[] 3) = W2 := ⟨_, rfl⟩
          have k1 : Keep (fun _ => True) wr W2 := by rw [← hW2]; exact Keep.alloc _ _ _
          have ho1 : W2.ownsRow wr.heap.size 3 1 (.slice (some ⟨wr.heap.size, 0, none⟩) 0 0) 0 [] := by rw [← hW2]; exact World.ownsRow_made wr #[] 0 (Nat.le_refl _) (by simp [maxLen]) rfl
          have hinv2 := hinvk.keep (k1.mono fun _ _ _ => trivial)
          have cR2 := (hVk.keep k1 (fun _ _ _ => trivial)).r.cell
          have lR2 : bR < W2.heap.size := World.block_lt_of_cell? _ _ cR2
          have htup := tuple_any hinv2.own (by omega) i t hts
          clear hi' ht0 hts hnth
          have XhJk := Lib.hid hJk
          have Xhinvk := Lib.hid hinvk
          have XhVk := Lib.hid hVk
          have Xhbd := Lib.hid hbd
          have Xk1 := Lib.hid k1
          have Xho1 := Lib.hid ho1
          have Xhinv2 := Lib.hid hinv2
          have Xhtup := Lib.hid htup
          have XhkN := Lib.hid hkN
          have Xhnth2 := Lib.hid hnth2
          have Xht00 := Lib.hid ht00
          have Xhnext := Lib.hid hnext
          clear hJk hinvk hVk hbd k1 ho1 hinv2 htup hkN hnth2 ht00 hnext
          gi_wp2
          refine ⟨trivial, rfl, (callsIn_wide.2 Xhtup.out).mono ?_⟩
          rintro e W3 ⟨vt, rfl, k3, z3, hvt, htl⟩
          have ho3 := own_kept Xho1.out k3 (fun _ _ => trivial)
          have hvt3 := ints_stay hvt (m := W2.heap.size) (k3.mono fun _ _ _ => trivial) (Nat.le_refl _)
          obtain ⟨at', ct', rfl, hlt', hct', het'⟩ := id hvt3
          have hclt := slice_cells (sz := 1) ic (fun _ => rfl) (by omega) (E := IntE) (fun b o x h j u hj => by
            have hj0 : j = 0 := by have := (List.getElem?_eq_some_iff.1 hj).1; simp [ic] at this; exact this
            subst hj0
            simp [ic] at hj
            subst hj
            exact h) hvt3 rfl
          have hz13 : wr.heap.size ≤ W3.heap.size := by have := Xk1.out.size; omega
          obtain ⟨va, W4, hr4, ho4, hg4, kw4⟩ := appA (P := Try.prog) el_int 23 ho3 at' t.length ct' (t.flatMap ic) (flatMap_len _ 1 (fun _ => rfl) _) hclt.1 hclt.2 (flat_one _ (by simp [ic, Value.oneCell']) _) (by omega) hz13
          rw [ic_map, List.nil_append, Nat.zero_add] at ho4
          have k04 : Keep (fun _ => True) wr W4 := ((Xk1.out.mono fun _ _ _ => trivial).trans ((k3.mono fun _ _ _ => trivial).trans (kw4.mono (C' := fun b => b < wr.heap.size) fun b _ h e => by have := (World.ownsRow.lt ho4 b e).1; omega))).mono (fun b hb _ => hb)
          have hinv4 := Xhinvk.out.keep (k04.mono fun _ _ _ => trivial)
          have hV4 := XhVk.out.keep k04 (fun _ _ _ => trivial)
          obtain ⟨fn, tmps, assign, body, hy, hR⟩ := Xhround.out (toldN lo hi pl j) s wr W4 #[.int .i64 (i : Int), va] XhkN.out XhJk.out (relIt_keep Xhinvk.out k04) hinv4 hV4 hsz ⟨i, t, Xhnth2.out, Xht00.out, va, rfl, ho4, hlt'⟩
          have hR' := Lib.hid hR
          clear hR hvt hvt3 het' hclt ho3 hg4 kw4 htl ho4
          have k3' := Lib.hid k3
          have hinv4' := Lib.hid hinv4
          have hV4' := Lib.hid hV4
          have hz4 : W.heap.size ≤ W4.heap.size := by have := k04.size; omega
          have k04' := Lib.hid k04
          clear k3 hinv4 hV4 k04
          have Xhr4 := Lib.hid hr4
          clear hr4
          gi_wp2_with (gi_at_builtin; refine gi_appW (v := .slice (some ⟨wr.heap.size, 0, none⟩) 0 0) (u := .slice at' t.length ct') (v' := va) (w' := W4) (by rfl) (.tmp 33) (.tmp 36) 23 rfl rfl rfl Xhr4.out ?_)
          refine ⟨rfl, hR'.out.mono ?_⟩
          rintro e Y ⟨s', hinvY, hVY, hbdY, hzY, (⟨rfl, hJY⟩ | ⟨rfl, hJY⟩)⟩
          all_goals
            have hbd' : RelBd s1 W.heap.size s' := Xhbd.out.trans hbdY hz4
            clear hbdY hR' hy
            have XhinvY := Lib.hid hinvY
            have XhVY := Lib.hid hVY
            have XhJY := Lib.hid hJY
            have Xhbd' := Lib.hid hbd'
            clear hinvY hVY hJY hbd'
            gi_wp2
          · go_roundw
            case rel => exact ⟨j + 1, s', by go_num, by omega, by rw [Xhnext.out]; exact XhJY.out, XhinvY.out, XhVY.out, Xhbd'.out, by omega⟩
            case measure => simp [intOf]; omega
          · refine bodyPost_ret (results_none rfl _ _ _) rfl ?_
            exact ⟨⟨_, rfl⟩, by omega, s', XhinvY.out, XhVY.out, .inr ⟨_, XhkN.out, XhJY.out⟩⟩
        · have hno := told_no hi' (lo := lo) (hi := hi) (by unfold inLH; rw [decide_eq_false hfr]; rfl)
          have hJn : J (toldN lo hi pl (j + 1)) s wr := by rw [hno]; exact hJk
          have hng : ¬ ((i : Int) ≥ lo) := hfr
          clear hno hJk hi' ht0 hts
          have XhJn := Lib.hid hJn
          have Xhinvk := Lib.hid hinvk
          have XhVk := Lib.hid hVk
          have Xhbd := Lib.hid hbd
          clear hJn hinvk hVk hbd
          gi_wp2
          refine ⟨trivial, ?_⟩
          rename_i aK
          refine aK _ _ ?_
          clear aK
          try go_frame
          refine skipW (by rfl) ?_
          try go_frame
          refine skipW (by rfl) ?_
          try go_frame
          refine skipW (by rfl) ?_
          try go_frame
          gi_wp2
          go_roundw
          case rel => exact ⟨j + 1, s, by go_num, by omega, XhJn.out, Xhinvk.out, XhVk.out, Xhbd.out, by omega⟩
          case measure => simp [intOf]; omega
    · have hje : j = pl.length := by omega
      have hJe : J (pl.filter (inLH lo hi)).length s wr := by rw [← told_all lo hi pl, ← hje]; exact hJk
      clear hJk hje
      have XhJe := Lib.hid hJe
      have Xhinvk := Lib.hid hinvk
      have XhVk := Lib.hid hVk
      have Xhbd := Lib.hid hbd
      clear hJe hinvk hVk hbd
      gi_wp2
      go_end0
      exact ⟨⟨_, rfl⟩, hsz, s, Xhinvk.out, XhVk.out, .inl (by rw [XhNl.out]; exact XhJe.out)⟩
end Go.Proofs
