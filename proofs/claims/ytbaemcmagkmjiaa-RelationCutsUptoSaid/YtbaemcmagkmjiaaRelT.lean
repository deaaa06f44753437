/- Layer 4, the program's relation: Match (its iterator's making; the plain law of its places). -/
import Derived.Test.YtbaemcmagkmjiaaProg
import Derived.Test.YtbaemcmagkmjiaaRelS
import Derived.Test.YtbaemcmagkmjiaaRelE
namespace Go.Proofs
open Go.RowKit Go.Ink
set_option linter.unusedVariables false
set_option linter.unusedSimpArgs false
attribute [local go_sem] Oper.semAt_some

/-- in block b one value -/
def BoxAt (w : World) (b t : Nat) (v : Value) : Prop := w.heap[b]? = some (.cells #[v] t (0, 0))
theorem BoxAt.keep {w w' : World} {b t : Nat} {v : Value} {C : Nat → Prop} (h : BoxAt w b t v) (hK : Keep C w w') (hC : C b) : BoxAt w' b t v := hK.heap h hC
theorem BoxAt.cell {w : World} {b t : Nat} {v : Value} (h : BoxAt w b t v) : w.cell? ⟨b, 0, none⟩ = some v := box_cell h
theorem BoxAt.lt {w : World} {b t : Nat} {v : Value} (h : BoxAt w b t v) : b < w.heap.size := heap_lt h

/-- the boxes of Match's own variables, from n0 to n1 -/
structure MatchV (n0 n1 bR bL bK bT bF B : Nat) (vl vk : Value) (lo hi : Int) (cols key : List Int) (w : World) : Prop where
  r : BoxAt w bR 24 (.pointer (some ⟨B, 0, none⟩))
  l : BoxAt w bL 23 vl
  k : BoxAt w bK 23 vk
  t : BoxAt w bT 3 (.int .i64 hi)
  f : BoxAt w bF 3 (.int .i64 lo)
  ol : w.ownsRow n0 3 1 vl cols.length (cols.map (.int .i64))
  ok : w.ownsRow n0 3 1 vk key.length (key.map (.int .i64))
  bl : ∀ b, vl.ownBlock = some b → b < n1
  bk : ∀ b, vk.ownBlock = some b → b < n1
  at' : (n0 ≤ bR ∧ bR < n1) ∧ (n0 ≤ bL ∧ bL < n1) ∧ (n0 ≤ bK ∧ bK < n1) ∧ (n0 ≤ bT ∧ bT < n1) ∧ (n0 ≤ bF ∧ bF < n1)
theorem MatchV.keep {n0 n1 bR bL bK bT bF B : Nat} {vl vk : Value} {lo hi : Int} {cols key : List Int} {w w' : World} {C : Nat → Prop} (h : MatchV n0 n1 bR bL bK bT bF B vl vk lo hi cols key w) (hK : Keep C w w') (hC : ∀ b, n0 ≤ b → b < n1 → C b) : MatchV n0 n1 bR bL bK bT bF B vl vk lo hi cols key w' := by
  obtain ⟨a1, a2, a3, a4, a5⟩ := h.at'
  exact ⟨h.r.keep hK (hC _ a1.1 a1.2), h.l.keep hK (hC _ a2.1 a2.2), h.k.keep hK (hC _ a3.1 a3.2), h.t.keep hK (hC _ a4.1 a4.2), h.f.keep hK (hC _ a5.1 a5.2),
    own_kept h.ol hK (fun b hb => hC b (World.ownsRow.lt h.ol b hb).1 (h.bl b hb)), own_kept h.ok hK (fun b hb => hC b (World.ownsRow.lt h.ok b hb).1 (h.bk b hb)), h.bl, h.bk, h.at'⟩

set_option maxRecDepth 100000 in
set_option maxHeartbeats 2000000 in
theorem relMatch_any (w : World) (B m : Nat) (vc vk : Value) (cols key : List Int) (lo hi : Int) (hs : IntsIn m w vc cols) (hsk : IntsIn m w vk key) (hm : m ≤ w.heap.size) :
    Calls Try.prog 10 #[.pointer (some ⟨B, 0, none⟩), vc, vk, .int .i64 lo, .int .i64 hi] w fun e w' => ∃ bR bL bK bT bF vl vk',
      e = .returned (.func (.func 32) #[] #[.pointer (some ⟨bR, 0, none⟩), .pointer (some ⟨bL, 0, none⟩), .pointer (some ⟨bK, 0, none⟩), .pointer (some ⟨bT, 0, none⟩), .pointer (some ⟨bF, 0, none⟩)]) ∧
      Keep (fun _ => True) w w' ∧ MatchV w.heap.size w'.heap.size bR bL bK bT bF B vl vk' lo hi cols key w' := by
  obtain ⟨a, cc, rfl, hlt, hct, het⟩ := id hs
  obtain ⟨ak, ck, rfl, hltk, hctk, hetk⟩ := id hsk
  obtain ⟨W0, hW0⟩ : ∃ W0, ((w.alloc (.cells #[.pointer (some ⟨B, 0, none⟩)] 24)).alloc (.cells #[.int .i64 lo] 3)).alloc (.cells #[.int .i64 hi] 3) = W0 := ⟨_, rfl⟩
  have k0 : Keep (fun _ => True) w W0 := by rw [← hW0]; exact ((Keep.alloc _ _ _).trans (Keep.alloc _ _ _)).trans (Keep.alloc _ _ _)
  have z0 : W0.heap.size = w.heap.size + 3 := by rw [← hW0]; simp
  have r0 : BoxAt W0 w.heap.size 24 (.pointer (some ⟨B, 0, none⟩)) := by rw [← hW0]; unfold BoxAt; simp only [alloc_get, World.size_alloc]; simp <;> omega
  have f0 : BoxAt W0 (w.heap.size + 1) 3 (.int .i64 lo) := by rw [← hW0]; unfold BoxAt; simp only [alloc_get, World.size_alloc]; simp <;> omega
  have t0 : BoxAt W0 (w.heap.size + 2) 3 (.int .i64 hi) := by rw [← hW0]; unfold BoxAt; simp only [alloc_get, World.size_alloc]; simp <;> omega
  have app0 : ∀ (W : World) (a : Option Addr) (c : Nat) (l : List Int), l.length ≤ 1073741824 → IntsIn m W (.slice a l.length c) l → m ≤ W.heap.size → ∃ a' c' W', (Builtin.append_ #[23, 23] 23 #[.slice (some ⟨W.heap.size, 0, none⟩) 0 0, .slice a l.length c]).run Try.prog (W.alloc (.cells #[] 3)) = .ok (.slice a' l.length c') W' ∧
      W'.ownsRow W.heap.size 3 1 (.slice a' l.length c') l.length (l.map (.int .i64)) ∧ Keep (fun _ => True) W W' := by
    intro W a c l hl hi hmW
    have k1 : Keep (fun _ => True) W (W.alloc (.cells #[] 3)) := Keep.alloc _ _ _
    have ho1 : (W.alloc (.cells #[] 3)).ownsRow W.heap.size 3 1 (.slice (some ⟨W.heap.size, 0, none⟩) 0 0) 0 [] := World.ownsRow_made W #[] 0 (Nat.le_refl _) (by simp [maxLen]) rfl
    have hi1 := ints_stay hi (m := m) (k1.mono fun _ _ _ => trivial) (Nat.le_refl _)
    have hcl := slice_cells (sz := 1) ic (fun _ => rfl) (by omega) (E := IntE) (fun b o x h j u hj => by
      have hj0 : j = 0 := by have := (List.getElem?_eq_some_iff.1 hj).1; simp [ic] at this; exact this
      subst hj0
      simp [ic] at hj
      subst hj
      exact h) hi1 rfl
    obtain ⟨va, W3, hr3, ho3, hg3, kw3⟩ := appA (P := Try.prog) el_int 23 ho1 a l.length c (l.flatMap ic) (flatMap_len _ 1 (fun _ => rfl) _) hcl.1 hcl.2 (flat_one _ (by simp [ic, Value.oneCell']) _) (by omega) (by simp)
    rw [ic_map, List.nil_append, Nat.zero_add] at ho3
    obtain ⟨a', c', rfl⟩ := own_form ho3
    exact ⟨a', c', W3, hr3, ho3, ((k1.mono fun _ _ _ => trivial).trans (kw3.mono (C' := fun b => b < W.heap.size) fun b _ h e => by have := (World.ownsRow.lt ho3 b e).1; omega)).mono fun b hb _ => hb⟩
  have hs0 := ints_stay hs (m := m) (k0.mono fun _ _ _ => trivial) (Nat.le_refl _)
  obtain ⟨al, cl, W2, hr2, ho2, k2⟩ := app0 W0 a cc cols hlt hs0 (by omega)
  have hz2 := k2.size
  have hsk2 := ints_stay (ints_stay hsk (m := m) (k0.mono fun _ _ _ => trivial) (Nat.le_refl _)) (m := m) (k2.mono fun _ _ _ => trivial) (Nat.le_refl _)
  obtain ⟨al', cl', W4, hr4, ho4, k4⟩ := app0 W2 ak ck key hltk hsk2 (by omega)
  have hz4 := k4.size
  obtain ⟨W5, hW5⟩ : ∃ W5, (W4.alloc (.cells #[.slice none 0 0] 23)).alloc (.cells #[.slice none 0 0] 23) = W5 := ⟨_, rfl⟩
  have k5 : Keep (fun _ => True) W4 W5 := by rw [← hW5]; exact (Keep.alloc _ _ _).trans (Keep.alloc _ _ _)
  have z5 : W5.heap.size = W4.heap.size + 2 := by rw [← hW5]; simp
  have l5 : BoxAt W5 W4.heap.size 23 (.slice none 0 0) := by rw [← hW5]; unfold BoxAt; simp only [alloc_get, World.size_alloc]; simp <;> omega
  have v5 : BoxAt W5 (W4.heap.size + 1) 23 (.slice none 0 0) := by rw [← hW5]; unfold BoxAt; simp only [alloc_get, World.size_alloc]; simp <;> omega
  obtain ⟨W6, hW6⟩ : ∃ W6, W5.setCell ⟨W4.heap.size, 0, none⟩ (.slice al cols.length cl) = W6 := ⟨_, rfl⟩
  have l6 : BoxAt W6 W4.heap.size 23 (.slice al cols.length cl) := by rw [← hW6]; exact set_box _ l5
  have k6 : Keep (fun b => b ≠ W4.heap.size) W5 W6 := by rw [← hW6]; exact Keep.setCell _ _ _ (by simp)
  have v6 := v5.keep k6 (by omega)
  obtain ⟨W7, hW7⟩ : ∃ W7, W6.setCell ⟨W4.heap.size + 1, 0, none⟩ (.slice al' key.length cl') = W7 := ⟨_, rfl⟩
  have v7 : BoxAt W7 (W4.heap.size + 1) 23 (.slice al' key.length cl') := by rw [← hW7]; exact set_box _ v6
  have k7 : Keep (fun b => b ≠ W4.heap.size + 1) W6 W7 := by rw [← hW7]; exact Keep.setCell _ _ _ (by simp)
  have l7 := l6.keep k7 (by omega)
  have k47 : Keep (fun b => b < W4.heap.size) W4 W7 := (k5.mono fun _ _ _ => trivial).trans ((k6.mono fun b _ h => by omega).trans (k7.mono fun b _ h => by omega))
  have k07 : Keep (fun _ => True) w W7 := ((k0.mono fun _ _ _ => trivial).trans ((k2.mono fun _ _ _ => trivial).trans ((k4.mono fun _ _ _ => trivial).trans (k47.mono (C' := fun b => b < w.heap.size) fun b _ h => by omega)))).mono fun b hb _ => hb
  have z7 : W7.heap.size = W5.heap.size := by rw [← hW7, ← hW6]; simp [World.setCell]
  have own2 : ∀ b, Value.ownBlock (.slice al cols.length cl) = some b → W0.heap.size ≤ b ∧ b < W2.heap.size := fun b hb => World.ownsRow.lt ho2 b hb
  have own4 : ∀ b, Value.ownBlock (.slice al' key.length cl') = some b → W2.heap.size ≤ b ∧ b < W4.heap.size := fun b hb => World.ownsRow.lt ho4 b hb
  have hV : MatchV w.heap.size W7.heap.size w.heap.size W4.heap.size (W4.heap.size + 1) (w.heap.size + 2) (w.heap.size + 1) B (.slice al cols.length cl) (.slice al' key.length cl') lo hi cols key W7 := by
    have kk : Keep (fun b => b < W0.heap.size) W0 W7 := (k2.mono fun _ _ _ => trivial).trans ((k4.mono fun _ _ _ => trivial).trans (k47.mono fun b _ h => by omega))
    refine ⟨r0.keep kk (by omega), l7, v7, t0.keep kk (by omega), f0.keep kk (by omega), ?_, ?_, fun b hb => by have := own2 b hb; omega, fun b hb => by have := own4 b hb; omega, ⟨by omega, by omega⟩, ⟨by omega, by omega⟩, ⟨by omega, by omega⟩, ⟨by omega, by omega⟩, by omega, by omega⟩
    · have h1 := own_kept (own_kept ho2 k4 (fun _ _ => trivial)) k47 (fun b hb => by have := own2 b hb; omega)
      exact ⟨h1.1, h1.2.imp id (fun ⟨g, cap, cur, e1, e2, e3⟩ => ⟨g, cap, cur, e1, by omega, e3⟩)⟩
    · have h1 := own_kept ho4 k47 (fun b hb => by have := own4 b hb; omega)
      exact ⟨h1.1, h1.2.imp id (fun ⟨g, cap, cur, e1, e2, e3⟩ => ⟨g, cap, cur, e1, by omega, e3⟩)⟩
  have cl5 := l5.cell
  have cfl := box_free l5 0
  have cv6 := v6.cell
  have cfv := box_free v6 0
  obtain ⟨n0, hn0⟩ : ∃ n0, W0.heap.size = n0 := ⟨_, rfl⟩
  have hB4 : W4.heap.size < W5.heap.size := by omega
  have hB6 : W4.heap.size + 1 < W6.heap.size := v6.lt
  clear app0 hs0 ho2 hsk2 ho4 l5 v5 l6 v6 v7 l7 k47 k7 k6 k5 own2 own4 z7 z5 hz2 hz4 k0 k2 k4 r0 f0 t0 z0
  rw [hn0] at hr2
  have Xhs := Lib.hid hs
  have Xhsk := Lib.hid hsk
  have Xhet := Lib.hid het
  have Xhetk := Lib.hid hetk
  have Xhr2 := Lib.hid hr2
  have Xhr4 := Lib.hid hr4
  have XhV := Lib.hid hV
  have Xk07 := Lib.hid k07
  clear hs hsk het hetk hr2 hr4 hV k07
  go_enter Try.func10, Try.ntmps10
  go_wp2_with (first
    | (at_builtin; refine go_app (v := .slice (some ⟨n0, 0, none⟩) 0 0) (u := .slice a cols.length cc) (v' := .slice al cols.length cl) (w' := W2) rfl (.tmp 13) (.tmp 14) 23 rfl rfl rfl Xhr2.out ?_)
    | (at_builtin; refine go_app (v := .slice (some ⟨W2.heap.size, 0, none⟩) 0 0) (u := .slice ak key.length ck) (v' := .slice al' key.length cl') (w' := W4) rfl (.tmp 16) (.tmp 17) 23 rfl rfl rfl Xhr4.out ?_))
  go_ret
  exact ⟨_, _, _, _, _, _, _, rfl, Xk07.out, XhV.out⟩

theorem keyed_cut {n : Nat} {t cols key : List Int} (hn : n ≤ 16) (ht : t.length = n) (hrow : rowD n cols = true) (hk : key.length = cols.length) : keyedD t cols key = decide (cutK t cols = padK key) := by
  have hin := rowD_at hrow
  have hiff : (cutK t cols = padK key) ↔ cutL t cols = key := by
    constructor
    · intro h
      exact pad_inj h (by rw [cutL_len, hk])
    · intro h
      unfold cutK
      rw [h]
  have h2 : keyedD t cols key = true ↔ cutL t cols = key := by
    unfold keyedD
    rw [List.all_eq_true]
    constructor
    · intro h
      apply List.ext_getElem?
      intro j
      by_cases hj : j < cols.length
      · have := h j (by simpa using hj)
        simp only [decide_eq_true_eq] at this
        rw [← this]
        have hc : cols[j]? = some cols[j] := List.getElem?_eq_getElem hj
        have hcm := hin cols[j] (List.getElem_mem hj)
        unfold cutL
        rw [List.getElem?_map, hc, List.getD_eq_getElem?_getD, hc]
        simp only [Option.map_some, Option.getD_some]
        rw [List.getD_eq_getElem?_getD, List.getElem?_eq_getElem (by omega)]
        rfl
      · rw [List.getElem?_eq_none (by rw [cutL_len]; omega), List.getElem?_eq_none (by omega)]
    · rintro rfl j hj
      rw [List.mem_range] at hj
      have hc : cols[j]? = some cols[j] := List.getElem?_eq_getElem hj
      have hcm := hin cols[j] (List.getElem_mem hj)
      unfold cutL
      rw [decide_eq_true_eq, List.getElem?_map, hc, List.getD_eq_getElem?_getD, hc]
      simp only [Option.map_some, Option.getD_some]
      rw [List.getD_eq_getElem?_getD, List.getElem?_eq_getElem (by omega)]
      rfl
  by_cases h : cutL t cols = key
  · rw [h2.2 h, decide_eq_true (hiff.2 h)]
  · rw [decide_eq_false (fun e => h (hiff.1 e)), Bool.eq_false_iff]
    exact fun e => h (h2.1 e)
def inLH (lo hi : Int) (i : Nat) : Bool := decide (lo ≤ (i : Int)) && decide ((i : Int) < hi)
theorem match_idx {n : Nat} {ts : List (List Int)} {cols key : List Int} {lo hi : Int} (hn : n ≤ 16) (hts : ∀ t ∈ ts, t.length = n) (hrow : rowD n cols = true) (hk : key.length = cols.length) : matchD n ts cols key lo hi = (idx ts cols (padK key)).filter (inLH lo hi) := by
  unfold matchD idx
  rw [if_pos (by rw [hrow, decide_eq_true hk]; rfl), List.filter_filter]
  refine List.filter_congr fun i hi2 => ?_
  rw [List.mem_range] at hi2
  unfold hitAt inLH
  rw [keyed_cut hn (hts _ (by rw [List.getD_eq_getElem?_getD, List.getElem?_eq_getElem hi2]; exact List.getElem_mem hi2)) hrow hk]
theorem match_bad {n : Nat} {ts : List (List Int)} {cols key : List Int} {lo hi : Int} (h : (rowD n cols && decide (key.length = cols.length)) = false) : matchD n ts cols key lo hi = [] := by
  unfold matchD
  rw [if_neg (by rw [h]; simp)]
theorem idx_more (ts us : List (List Int)) (l k : List Int) {j i : Nat} (h : (idx ts l k)[j]? = some i) : (idx (ts ++ us) l k)[j]? = some i := by
  induction us generalizing ts with
  | nil => simpa using h
  | cons u us ih =>
    rw [← List.singleton_append, ← List.append_assoc]
    refine ih (ts ++ [u]) ?_
    rw [idx_add, List.getElem?_append_left (List.getElem?_eq_some_iff.1 h).1]
    exact h
theorem idx_lt {ts : List (List Int)} {l k : List Int} {j i : Nat} (h : (idx ts l k)[j]? = some i) : i < ts.length := by
  have := List.mem_of_getElem? h
  unfold idx at this
  rw [List.mem_filter, List.mem_range] at this
  exact this.1
theorem idx_sorted (ts : List (List Int)) (l k : List Int) : (idx ts l k).Pairwise (· < ·) := List.Pairwise.filter _ List.pairwise_lt_range
/-- the turns: what is told ahead of place j -/
def toldN (lo hi : Int) (pl : List Nat) (j : Nat) : Nat := ((pl.take j).filter (inLH lo hi)).length
theorem told_split (lo hi : Int) (pl : List Nat) {j i : Nat} (hj : pl[j]? = some i) : pl.filter (inLH lo hi) = (pl.take j).filter (inLH lo hi) ++ ((if inLH lo hi i = true then [i] else []) ++ (pl.drop (j + 1)).filter (inLH lo hi)) := by
  have hlt := (List.getElem?_eq_some_iff.1 hj).1
  have hg := (List.getElem?_eq_some_iff.1 hj).2
  conv => lhs; rw [← List.take_append_drop j pl, List.drop_eq_getElem_cons hlt, hg]
  rw [List.filter_append, List.filter_cons]
  split <;> simp
theorem told_yes {lo hi : Int} {pl : List Nat} {j i : Nat} (hj : pl[j]? = some i) (h : inLH lo hi i = true) : (pl.filter (inLH lo hi))[toldN lo hi pl j]? = some i ∧ toldN lo hi pl (j + 1) = toldN lo hi pl j + 1 := by
  constructor
  · rw [told_split lo hi pl hj, if_pos h]
    unfold toldN
    rw [List.getElem?_append_right (Nat.le_refl _), Nat.sub_self]
    rfl
  · unfold toldN
    rw [List.take_add_one, hj, List.filter_append]
    simp [h]
theorem told_no {lo hi : Int} {pl : List Nat} {j i : Nat} (hj : pl[j]? = some i) (h : inLH lo hi i = false) : toldN lo hi pl (j + 1) = toldN lo hi pl j := by
  unfold toldN
  rw [List.take_add_one, hj, List.filter_append]
  simp [h]
theorem told_end {lo hi : Int} {pl : List Nat} (hs : pl.Pairwise (· < ·)) {j i : Nat} (hj : pl[j]? = some i) (h : hi ≤ (i : Int)) : toldN lo hi pl j = (pl.filter (inLH lo hi)).length := by
  have hlt := (List.getElem?_eq_some_iff.1 hj).1
  have hg := (List.getElem?_eq_some_iff.1 hj).2
  have h0 : inLH lo hi i = false := by unfold inLH; rw [decide_eq_false (by omega : ¬ (i : Int) < hi), Bool.and_false]
  rw [told_split lo hi pl hj, h0]
  have h1 : (pl.drop (j + 1)).filter (inLH lo hi) = [] := by
    refine List.filter_eq_nil_iff.2 fun x hx => ?_
    obtain ⟨q, hq⟩ := List.mem_iff_getElem?.1 hx
    rw [List.getElem?_drop] at hq
    have hq1 := (List.getElem?_eq_some_iff.1 hq).1
    have hq2 := (List.getElem?_eq_some_iff.1 hq).2
    have := (List.pairwise_iff_getElem.1 hs) j (j + 1 + q) hlt hq1 (by omega)
    rw [hg, hq2] at this
    unfold inLH
    rw [decide_eq_false (by omega : ¬ (x : Int) < hi), Bool.and_false]
    simp
  rw [h1]
  unfold toldN
  simp
theorem told_all (lo hi : Int) (pl : List Nat) : toldN lo hi pl pl.length = (pl.filter (inLH lo hi)).length := by unfold toldN; rw [List.take_length]
end Go.Proofs
