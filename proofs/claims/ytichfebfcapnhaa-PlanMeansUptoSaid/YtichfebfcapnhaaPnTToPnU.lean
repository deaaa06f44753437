/- Layer 16 (plan): slices.Clone, by cells; printed by wip/tools/cc/gen_pnt.py. -/
import Derived.Test.YtichfebfcapnhaaProg
import Derived.Test.YtichfebfcapnhaaPnRToPnS
import Derived.Laws.Cover3
import Derived.WalkKit
import Derived.Test.YtichfebfcapnhaaOwnToRowC
import Derived.Test.YtichfebfcapnhaaPnQToOwnB
namespace Go.Proofs
open Go.RowKit Go.Ink
set_option linter.unusedVariables false
set_option linter.unusedSimpArgs false
attribute [local go_sem] Oper.semAt_some

theorem own_empty (w : World) (e : TypeId) (sz : Nat) : (w.alloc (.cells #[] e)).ownsRow w.heap.size e sz (.slice (some ⟨w.heap.size, 0, none⟩) 0 0) 0 [] :=
  ⟨by simp, .inr ⟨w.heap.size, 0, #[], rfl, Nat.le_refl _, new_block w _, Nat.le_refl _, by simp [maxLen], by simp, by simp⟩⟩
theorem eql_nil {T e : TypeId} {sz by' : Nat} (h : ElemOf Try.prog T e sz by') (w : World) (a : Option Addr) (l c : Nat) : (binOp .eql T (.slice a l c) (.slice none 0 0)).run Try.prog w = .ok (.bool a.isNone) w := by
  show ((Op.equal T (.slice a l c) (.slice none 0 0)) >>= fun b => pure (Value.bool b)).run Try.prog w = _
  simp [run_equal_slice_nil w T e a l c h.1]
theorem el_terms : ElemOf Try.prog 23 76 2 24 := elem_of (z := .agg #[.bool false, .string ⟨#[]⟩]) (by kernel_rfl) (by kernel_rfl) rfl (by decide) (by decide)
theorem el_lits : ElemOf Try.prog 26 78 7 96 := elem_of (z := .agg #[.int .i64 0, .string ⟨#[]⟩, .slice none 0 0, .bool false, .string ⟨#[]⟩, .bool false, .string ⟨#[]⟩]) (by kernel_rfl) (by kernel_rfl) rfl (by decide) (by decide)
theorem el_steps : ElemOf Try.prog 32 73 3 56 := elem_of (z := .agg #[.int .i64 0, .slice none 0 0, .slice none 0 0]) (by kernel_rfl) (by kernel_rfl) rfl (by decide) (by decide)

set_option maxRecDepth 100000 in
theorem cloneTerms_raw (a : Option Addr) (m c : Nat) (news : List Value) (w : World) (hl : news.length = m * 2) (hs : ∀ b, a = some b → ∀ j u, news[j]? = some u → w.cell? (b.add j) = some u) (hn : a = none → m = 0) (h1 : ∀ u ∈ news, u.oneCell' = true) (hm : m ≤ 1073741824) :
    Calls Try.prog 64 #[.slice a m c] w fun e w' => ∃ v', e = .returned v' ∧ w'.ownsRow w.heap.size 76 2 v' m news ∧ Keep (fun _ => True) w w' := by
  have hq := fun w a l c => eql_nil el_terms w a l c
  cases a with
  | none =>
    have hm0 := hn rfl
    subst hm0
    have hnil : news = [] := List.eq_nil_of_length_eq_zero (by simpa using hl)
    subst hnil
    clear hl hs hn h1 hm
    go_enter Try.func64, Try.ntmps64
    go_wp2_with fail
    go_ret
    exact ⟨_, rfl, World.ownsRow_nil _ _ _ _, Keep.refl _ _⟩
  | some b =>
    obtain ⟨W0, hW0⟩ : ∃ W0, w.alloc (.cells #[] 76) = W0 := ⟨_, rfl⟩
    have k0 : Keep (fun _ => True) w W0 := by rw [← hW0]; exact Keep.alloc _ _ _
    have o0 := own_empty w 76 2
    rw [hW0] at o0
    obtain ⟨v', W1, hr, ho, hg, hk⟩ := appA (P := Try.prog) el_terms 23 o0 (some b) m c news hl (fun b' hb j u hj => k0.cell (hs b' hb j u hj) trivial) (fun h => by cases h) h1 (by omega) k0.size
    rw [List.nil_append, Nat.zero_add] at ho
    have hk1 : Keep (fun b => b < w.heap.size) w W1 := (k0.mono fun _ _ _ => trivial).trans (hk.mono fun b _ h e => by
      rcases hg b e with h1 | h1
      · simp [Value.ownBlock] at h1; omega
      · have := k0.size; omega)
    have hk2 : Keep (fun _ => True) w W1 := hk1.mono fun b hb _ => hb
    rw [← hW0] at hr
    obtain ⟨a', c', rfl⟩ := own_form ho
    clear hl hs hn h1 hg hk hk1 k0 o0 hW0
    have Xhr := Lib.hid hr
    have Xho := Lib.hid ho
    have Xhk2 := Lib.hid hk2
    clear hr ho hk2
    go_enter Try.func64, Try.ntmps64
    go_wp2_with (at_builtin; refine go_app (v := .slice (some ⟨w.heap.size, 0, none⟩) 0 0) (u := .slice (some b) m c) (v' := .slice a' m c') (w' := W1) rfl (.tmp 5) (.tmp 6) 23 rfl rfl rfl Xhr.out ?_)
    go_ret
    exact ⟨_, rfl, Xho.out, Xhk2.out⟩
set_option maxRecDepth 100000 in
theorem cloneLits_raw (a : Option Addr) (m c : Nat) (news : List Value) (w : World) (hl : news.length = m * 7) (hs : ∀ b, a = some b → ∀ j u, news[j]? = some u → w.cell? (b.add j) = some u) (hn : a = none → m = 0) (h1 : ∀ u ∈ news, u.oneCell' = true) (hm : m ≤ 1073741824) :
    Calls Try.prog 65 #[.slice a m c] w fun e w' => ∃ v', e = .returned v' ∧ w'.ownsRow w.heap.size 78 7 v' m news ∧ Keep (fun _ => True) w w' := by
  have hq := fun w a l c => eql_nil el_lits w a l c
  cases a with
  | none =>
    have hm0 := hn rfl
    subst hm0
    have hnil : news = [] := List.eq_nil_of_length_eq_zero (by simpa using hl)
    subst hnil
    clear hl hs hn h1 hm
    go_enter Try.func65, Try.ntmps65
    go_wp2_with fail
    go_ret
    exact ⟨_, rfl, World.ownsRow_nil _ _ _ _, Keep.refl _ _⟩
  | some b =>
    obtain ⟨W0, hW0⟩ : ∃ W0, w.alloc (.cells #[] 78) = W0 := ⟨_, rfl⟩
    have k0 : Keep (fun _ => True) w W0 := by rw [← hW0]; exact Keep.alloc _ _ _
    have o0 := own_empty w 78 7
    rw [hW0] at o0
    obtain ⟨v', W1, hr, ho, hg, hk⟩ := appA (P := Try.prog) el_lits 26 o0 (some b) m c news hl (fun b' hb j u hj => k0.cell (hs b' hb j u hj) trivial) (fun h => by cases h) h1 (by omega) k0.size
    rw [List.nil_append, Nat.zero_add] at ho
    have hk1 : Keep (fun b => b < w.heap.size) w W1 := (k0.mono fun _ _ _ => trivial).trans (hk.mono fun b _ h e => by
      rcases hg b e with h1 | h1
      · simp [Value.ownBlock] at h1; omega
      · have := k0.size; omega)
    have hk2 : Keep (fun _ => True) w W1 := hk1.mono fun b hb _ => hb
    rw [← hW0] at hr
    obtain ⟨a', c', rfl⟩ := own_form ho
    clear hl hs hn h1 hg hk hk1 k0 o0 hW0
    have Xhr := Lib.hid hr
    have Xho := Lib.hid ho
    have Xhk2 := Lib.hid hk2
    clear hr ho hk2
    go_enter Try.func65, Try.ntmps65
    go_wp2_with (at_builtin; refine go_app (v := .slice (some ⟨w.heap.size, 0, none⟩) 0 0) (u := .slice (some b) m c) (v' := .slice a' m c') (w' := W1) rfl (.tmp 5) (.tmp 6) 26 rfl rfl rfl Xhr.out ?_)
    go_ret
    exact ⟨_, rfl, Xho.out, Xhk2.out⟩
set_option maxRecDepth 100000 in
theorem cloneSteps_raw (a : Option Addr) (m c : Nat) (news : List Value) (w : World) (hl : news.length = m * 3) (hs : ∀ b, a = some b → ∀ j u, news[j]? = some u → w.cell? (b.add j) = some u) (hn : a = none → m = 0) (h1 : ∀ u ∈ news, u.oneCell' = true) (hm : m ≤ 1073741824) :
    Calls Try.prog 60 #[.slice a m c] w fun e w' => ∃ v', e = .returned v' ∧ w'.ownsRow w.heap.size 73 3 v' m news ∧ Keep (fun _ => True) w w' := by
  have hq := fun w a l c => eql_nil el_steps w a l c
  cases a with
  | none =>
    have hm0 := hn rfl
    subst hm0
    have hnil : news = [] := List.eq_nil_of_length_eq_zero (by simpa using hl)
    subst hnil
    clear hl hs hn h1 hm
    go_enter Try.func60, Try.ntmps60
    go_wp2_with fail
    go_ret
    exact ⟨_, rfl, World.ownsRow_nil _ _ _ _, Keep.refl _ _⟩
  | some b =>
    obtain ⟨W0, hW0⟩ : ∃ W0, w.alloc (.cells #[] 73) = W0 := ⟨_, rfl⟩
    have k0 : Keep (fun _ => True) w W0 := by rw [← hW0]; exact Keep.alloc _ _ _
    have o0 := own_empty w 73 3
    rw [hW0] at o0
    obtain ⟨v', W1, hr, ho, hg, hk⟩ := appA (P := Try.prog) el_steps 32 o0 (some b) m c news hl (fun b' hb j u hj => k0.cell (hs b' hb j u hj) trivial) (fun h => by cases h) h1 (by omega) k0.size
    rw [List.nil_append, Nat.zero_add] at ho
    have hk1 : Keep (fun b => b < w.heap.size) w W1 := (k0.mono fun _ _ _ => trivial).trans (hk.mono fun b _ h e => by
      rcases hg b e with h1 | h1
      · simp [Value.ownBlock] at h1; omega
      · have := k0.size; omega)
    have hk2 : Keep (fun _ => True) w W1 := hk1.mono fun b hb _ => hb
    rw [← hW0] at hr
    obtain ⟨a', c', rfl⟩ := own_form ho
    clear hl hs hn h1 hg hk hk1 k0 o0 hW0
    have Xhr := Lib.hid hr
    have Xho := Lib.hid ho
    have Xhk2 := Lib.hid hk2
    clear hr ho hk2
    go_enter Try.func60, Try.ntmps60
    go_wp2_with (at_builtin; refine go_app (v := .slice (some ⟨w.heap.size, 0, none⟩) 0 0) (u := .slice (some b) m c) (v' := .slice a' m c') (w' := W1) rfl (.tmp 5) (.tmp 6) 32 rfl rfl rfl Xhr.out ?_)
    go_ret
    exact ⟨_, rfl, Xho.out, Xhk2.out⟩
end Go.Proofs

/- Rules in memory of one's own: terms, literals with their arguments. No program is named here. -/
namespace Go.Proofs
open Go.RowKit Go.Ink
set_option linter.unusedVariables false
set_option linter.unusedSimpArgs false

def termCells (ts : List TermD) : List Value := ts.flatMap fun t => [.bool t.var, .string t.text]
theorem termCells_len (ts : List TermD) : (termCells ts).length = ts.length * 2 := flatMap_len _ 2 (fun _ => rfl) ts
theorem termCells_one (ts : List TermD) : ∀ u ∈ termCells ts, u.oneCell' = true := flat_one _ (fun x u hu => by
  simp only [List.mem_cons, List.not_mem_nil, or_false] at hu
  rcases hu with rfl | rfl <;> rfl) ts
theorem own_terms {w : World} {base n : Nat} {e : TypeId} {v : Value} {ts : List TermD} (h : w.ownsRow base e 2 v n (termCells ts)) (hn : n = ts.length) (hb : ts.length ≤ 1073741824) : TermsIn w.heap.size w v ts :=
  own_slice h ts hn hb TermE fun b k t ht hc => by
    have hk : ∀ j, j < 2 → (termCells ts)[k * 2 + j]? = ([Value.bool t.var, .string t.text] : List Value)[j]? := fun j hj => flatMap_at _ 2 (fun _ => rfl) _ k j t ht hj
    exact ⟨by have := hc 0 (by omega); rw [hk 0 (by omega)] at this; exact this, by have := hc 1 (by omega); rw [hk 1 (by omega)] at this; exact this⟩
/-- terms as a source of cells -/
theorem terms_src {n : Nat} {w : World} {a : Option Addr} {c : Nat} {ts : List TermD} (h : TermsIn n w (.slice a ts.length c) ts) : (∀ b, a = some b → ∀ j u, (termCells ts)[j]? = some u → w.cell? (b.add j) = some u) ∧ (a = none → ts.length = 0) :=
  slice_cells (fun t : TermD => [Value.bool t.var, Value.string t.text]) (fun _ => rfl) (by omega) (fun b o x hx j u hu => by
    match j, hu with
    | 0, hu => simp at hu; subst hu; exact hx.1
    | 1, hu => simp at hu; subst hu; exact hx.2) h rfl

/-- a store into a row of one's own -/
theorem own_set {w : World} {base : Nat} {e : TypeId} {sz n cap g : Nat} {xs : List Value} (h : w.ownsRow base e sz (.slice (some ⟨g, 0, none⟩) n cap) n xs) (j : Nat) (u : Value) (hj : j < xs.length) : (w.setCell ⟨g, j, none⟩ u).ownsRow base e sz (.slice (some ⟨g, 0, none⟩) n cap) n (xs.set j u) := by
  refine ⟨by rw [List.length_set]; exact h.1, ?_⟩
  rcases h.2 with ⟨h1, _⟩ | ⟨g', cap', cur, h1, hb, hg, hnc, hcm, hcs, ht⟩
  · cases h1
  · cases h1
    refine .inr ⟨g, cap, cur.setIfInBounds j u, rfl, hb, set_at j u hg, hnc, hcm, by rw [Array.size_setIfInBounds]; exact hcs, ?_⟩
    rw [← ht, Array.toList_setIfInBounds, List.take_set]
abbrev litC (p : LitD × Value) : List Value := litCells p.1 p.2
theorem lit_set (qs rest : List (LitD × Value)) (p : LitD × Value) (v : Value) : ((qs ++ p :: rest).flatMap litC).set (qs.length * 7 + 2) v = (qs ++ (p.1, v) :: rest).flatMap litC := by
  rw [List.flatMap_append, List.flatMap_append, List.set_append_right _ _ (by rw [flatMap_len litC 7 (fun _ => rfl)]; omega), flatMap_len litC 7 (fun _ => rfl)]
  congr 1
  rw [show qs.length * 7 + 2 - qs.length * 7 = 2 by omega]
  rfl

/-- literals of one's own, their arguments too -/
def BodyOwn (base : Nat) (tl tt : TypeId) (w : World) (v : Value) (ls : List LitD) : Prop :=
  ∃ ps : List (LitD × Value), ps.map (·.1) = ls ∧ w.ownsRow base tl 7 v ls.length (ps.flatMap litC) ∧ ∀ p, p ∈ ps → w.ownsRow base tt 2 p.2 p.1.atom.args.length (termCells p.1.atom.args)
/-- a rule of one's own -/
def RuleOwn (base : Nat) (tl tt : TypeId) (w : World) (vh vb : Value) (r : RuleD) : Prop :=
  w.ownsRow base tt 2 vh r.head.args.length (termCells r.head.args) ∧ BodyOwn base tl tt w vb r.body
/-- no list of the rule is longer than memory bears -/
def sizedR (r : RuleD) : Prop := r.head.args.length ≤ 1073741824 ∧ r.body.length ≤ 1073741824 ∧ ∀ L, L ∈ r.body → L.atom.args.length ≤ 1073741824
theorem sized_of {n : Nat} {w : World} {sh sb : Value} {r : RuleD} (h : RuleIn n w sh sb r) : sizedR r := by
  obtain ⟨⟨_, _, _, h1, _⟩, ⟨a, c, hv, h2, h3, h4⟩⟩ := h
  refine ⟨h1, h2, fun L hL => ?_⟩
  obtain ⟨k, hk⟩ := List.mem_iff_getElem?.1 hL
  obtain ⟨_, _, _, _, _, _, ⟨_, _, _, h, _⟩⟩ := h4 k L hk
  exact h
theorem RuleOwn.rule {base : Nat} {tl tt : TypeId} {w : World} {vh vb : Value} {r : RuleD} (h : RuleOwn base tl tt w vh vb r) (hs : sizedR r) : RuleIn w.heap.size w vh vb r := by
  obtain ⟨h1, ps, hps, h2, h3⟩ := h
  refine ⟨own_terms h1 rfl hs.1, ?_⟩
  have hmem : ∀ p, p ∈ ps → p.1 ∈ r.body := fun p hp => by rw [← hps]; exact List.mem_map.2 ⟨p, hp, rfl⟩
  have := own_lits (n0 := w.heap.size) h2 (by have := congrArg List.length hps; rw [List.length_map] at this; rw [this]; exact hs.2.1) (Nat.le_refl _) (fun p hp => own_terms (h3 p hp) rfl (hs.2.2 _ (hmem p hp)))
  rwa [hps] at this
theorem BodyOwn.keep {base : Nat} {tl tt : TypeId} {w w' : World} {v : Value} {ls : List LitD} {C : Nat → Prop} (h : BodyOwn base tl tt w v ls) (hK : Keep C w w') (hC : ∀ b, base ≤ b → b < w.heap.size → C b) : BodyOwn base tl tt w' v ls := by
  obtain ⟨ps, hps, h2, h3⟩ := h
  exact ⟨ps, hps, own_kept h2 hK (fun b hb => by have := World.ownsRow.lt h2 b hb; exact hC b this.1 this.2), fun p hp => own_kept (h3 p hp) hK (fun b hb => by have := World.ownsRow.lt (h3 p hp) b hb; exact hC b this.1 this.2)⟩
theorem RuleOwn.keep {base : Nat} {tl tt : TypeId} {w w' : World} {vh vb : Value} {r : RuleD} {C : Nat → Prop} (h : RuleOwn base tl tt w vh vb r) (hK : Keep C w w') (hC : ∀ b, base ≤ b → b < w.heap.size → C b) : RuleOwn base tl tt w' vh vb r :=
  ⟨own_kept h.1 hK (fun b hb => by have := World.ownsRow.lt h.1 b hb; exact hC b this.1 this.2), h.2.keep hK hC⟩
theorem BodyOwn.mono {base base' : Nat} {tl tt : TypeId} {w : World} {v : Value} {ls : List LitD} (h : BodyOwn base tl tt w v ls) (hb : base' ≤ base) : BodyOwn base' tl tt w v ls := by
  obtain ⟨ps, hps, h2, h3⟩ := h
  exact ⟨ps, hps, h2.mono hb, fun p hp => (h3 p hp).mono hb⟩
theorem RuleOwn.mono {base base' : Nat} {tl tt : TypeId} {w : World} {vh vb : Value} {r : RuleD} (h : RuleOwn base tl tt w vh vb r) (hb : base' ≤ base) : RuleOwn base' tl tt w vh vb r := ⟨h.1.mono hb, h.2.mono hb⟩

/-- literals with the values of their arguments' slices -/
theorem lits_pairs {n : Nat} {w : World} {a : Option Addr} {c : Nat} {ls : List LitD} (h : LitsIn n w (.slice a ls.length c) ls) : ∃ ps : List (LitD × Value), ps.map (·.1) = ls ∧ (∀ p, p ∈ ps → TermsIn n w p.2 p.1.atom.args) ∧ (∀ b, a = some b → ∀ j u, (ps.flatMap litC)[j]? = some u → w.cell? (b.add j) = some u) ∧ (a = none → ls.length = 0) := by
  obtain ⟨a', c', hv, hl, hc, he⟩ := h
  cases hv
  have hex : ∀ k, k ≤ ls.length → ∃ ps : List (LitD × Value), ps.map (·.1) = ls.take k ∧ ∀ j p, ps[j]? = some p → TermsIn n w p.2 p.1.atom.args ∧ ∃ b off, a = some ⟨b, off, none⟩ ∧ CellsE w b (off + j * 7) (litC p) := by
    intro k
    induction k with
    | zero => intro _; exact ⟨[], rfl, fun j p h => by simp at h⟩
    | succ k ih =>
      intro hk
      obtain ⟨ps, hps, hall⟩ := ih (by omega)
      obtain ⟨b, off, ha, hb, sa, hcl, hsa⟩ := he k _ (List.getElem?_eq_getElem (show k < ls.length by omega))
      have hlen : ps.length = k := by have := congrArg List.length hps; rw [List.length_map, List.length_take] at this; omega
      refine ⟨ps ++ [(ls[k]'(by omega), sa)], by rw [List.map_append, hps, List.take_add_one, List.getElem?_eq_getElem (show k < ls.length by omega)]; rfl, fun j p hj => ?_⟩
      rcases Nat.lt_or_ge j ps.length with hlt | hge
      · rw [List.getElem?_append_left hlt] at hj
        exact hall j p hj
      · rw [List.getElem?_append_right hge] at hj
        have hj0 : j - ps.length = 0 := by
          have := (List.getElem?_eq_some_iff.1 hj).1
          simp at this
          omega
        rw [hj0] at hj
        simp at hj
        subst hj
        have : j = k := by omega
        subst this
        exact ⟨hsa, b, off, ha, hcl⟩
  obtain ⟨ps, hps, hall⟩ := hex ls.length (Nat.le_refl _)
  rw [List.take_length] at hps
  have hlen : ps.length = ls.length := by have := congrArg List.length hps; rwa [List.length_map] at this
  refine ⟨ps, hps, fun p hp => ?_, fun b hb j u hj => ?_, fun ha => ?_⟩
  · obtain ⟨j, hj⟩ := List.mem_iff_getElem?.1 hp
    exact (hall j p hj).1
  · have hlt := (List.getElem?_eq_some_iff.1 hj).1
    rw [flatMap_len litC 7 (fun _ => rfl)] at hlt
    have hq : j / 7 < ps.length := by omega
    obtain ⟨b', off, ha, hcl⟩ := (hall (j / 7) _ (List.getElem?_eq_getElem hq)).2
    rw [ha] at hb
    cases hb
    have hk := flatMap_at litC 7 (fun _ => rfl) ps (j / 7) (j % 7) _ (List.getElem?_eq_getElem hq) (by omega)
    rw [show j / 7 * 7 + j % 7 = j by omega, hj] at hk
    have := hcl (j % 7) u hk.symm
    rw [show ((⟨b', off, none⟩ : Addr).add j) = ⟨b', off + j, none⟩ from by unfold Addr.add; split <;> simp_all]
    rwa [Nat.add_assoc, show j / 7 * 7 + j % 7 = j by omega] at this
  · by_cases h0 : ls.length = 0
    · exact h0
    · obtain ⟨b, off, hb, _⟩ := he 0 ls[0] (List.getElem?_eq_getElem (by omega))
      rw [ha] at hb; cases hb
theorem litC_one {n : Nat} {w : World} {ps : List (LitD × Value)} (h : ∀ p, p ∈ ps → TermsIn n w p.2 p.1.atom.args) : ∀ u ∈ ps.flatMap litC, u.oneCell' = true := by
  intro u hu
  obtain ⟨p, hp, hx⟩ := List.mem_flatMap.1 hu
  obtain ⟨a, c, hv, _⟩ := h p hp
  unfold litC litCells at hx
  rw [hv] at hx
  simp only [List.mem_cons, List.not_mem_nil, or_false] at hx
  rcases hx with rfl | rfl | rfl | rfl | rfl | rfl | rfl <;> rfl
end Go.Proofs
