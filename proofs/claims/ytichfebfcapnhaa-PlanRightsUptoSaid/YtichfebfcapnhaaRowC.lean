/- Rows of a slice's own: copies with marks, cells. No program is named here. (For seats that do without Copy.) -/
import Derived.WalkKit
import Derived.Deep.Onto
import Derived.Deep.QuietTactic
import Derived.BigQuiet
import Derived.Test.YtichfebfcapnhaaData
import Derived.Test.YtichfebfcapnhaaOwn
namespace Go.Proofs
open Go.RowKit Go.Ink
set_option linter.unusedVariables false
set_option linter.unusedSimpArgs false

/-- append of nothing to nil -/
theorem run_append_nothing {P : Program} {t e : TypeId} {size bytes : Nat} (hE : ElemOf P t e size bytes) (ty : TypeId) (w : World) (a : Option Addr) (c : Nat) :
    (Builtin.append_ #[t, t] ty #[.slice none 0 0, .slice a 0 c]).run P w = .ok (.slice none 0 0) w := by
  obtain ⟨ht, hsz, hby, i, z, hi, hz, hsize, hbytes, hzs⟩ := hE
  cases a <;> simp [Builtin.append_, run_underlying ht, sizeOf, typeInfo, hi, Builtin.lenOf, Builtin.firstCells, loadCells, loadCellsFrom]

/-- 'append([]T(nil), x...)' -/
theorem app_copy {P : Program} {t e : TypeId} {size bytes : Nat} (hE : ElemOf P t e size bytes) (ty : TypeId) (w : World) (a : Option Addr) (m c : Nat) (news : List Value) (hl : news.length = m * size)
    (hnews : ∀ b, a = some b → ∀ j u, news[j]? = some u → w.cell? (b.add j) = some u) (hn : a = none → m = 0) (h1 : ∀ u ∈ news, u.oneCell' = true) (hm : m ≤ 1073741824) :
    ∃ v' w', (Builtin.append_ #[t, t] ty #[.slice none 0 0, .slice a m c]).run P w = .ok v' w' ∧ w'.ownsRow w.heap.size e size v' m news ∧ Keep (fun _ => True) w w' := by
  by_cases h0 : m = 0
  · subst h0
    have : news = [] := List.eq_nil_of_length_eq_zero (by simpa using hl)
    subst this
    exact ⟨_, _, run_append_nothing hE ty w a c, World.ownsRow_nil _ _ _ _, Keep.refl _ _⟩
  · cases a with
    | none => exact absurd (hn rfl) h0
    | some b =>
      obtain ⟨v', w', hr, ho, hK, g, cap, hv, hg, hlt⟩ := app hE ty (World.ownsRow_nil w w.heap.size e size) b m c news hl (hnews b rfl) h1 (by omega) (by omega) (Nat.le_refl _)
      exact ⟨v', w', hr, by simpa using ho, hK.mono (fun k _ _ => by simp [Value.ownBlock])⟩

/-- blocks that are no row of the slice's own -/
theorem own_not {w : World} {base : Nat} {e : TypeId} {sz : Nat} {v : Value} {n : Nat} {xs : List Value} (h : w.ownsRow base e sz v n xs) {b : Nat} (hb : b < base) : some b ≠ v.ownBlock := fun he => by
  have := (World.ownsRow.lt h b he.symm).1; omega

/-- what a row holds, by elements -/
theorem own_elem {w : World} {base : Nat} {e : TypeId} {sz g n cap : Nat} {xs : List Value} (h : w.ownsRow base e sz (.slice (some ⟨g, 0, none⟩) n cap) n xs) (j : Nat) (u : Value) (hu : xs[j]? = some u) : w.cell? ⟨g, j, none⟩ = some u := by
  have := h.cells (g := g) rfl j u hu
  rwa [show ((⟨g, 0, none⟩ : Addr).add j) = ⟨g, j, none⟩ from by unfold Addr.add; split <;> simp_all] at this

theorem own_cap {w : World} {base : Nat} {e : TypeId} {sz g n cap : Nat} {xs : List Value} (h : w.ownsRow base e sz (.slice (some ⟨g, 0, none⟩) n cap) n xs) : n ≤ cap ∧ cap ≤ maxLen ∧ g < w.heap.size ∧ base ≤ g := by
  rcases h.2 with ⟨h, _⟩ | ⟨g', c, cur, h, hb, hg, hnc, hc, _⟩
  · cases h
  · cases h; exact ⟨hnc, hc, heap_lt hg, hb⟩

theorem own_form {w : World} {base : Nat} {e : TypeId} {sz : Nat} {v : Value} {n : Nat} {xs : List Value} (h : w.ownsRow base e sz v n xs) : ∃ a c, v = .slice a n c := by
  rcases h.2 with ⟨h1, h2⟩ | ⟨g, c, _, h1, _⟩
  · exact ⟨none, 0, by rw [h1, h2]⟩
  · exact ⟨_, c, h1⟩

theorem own_base2 {w : World} {base base' : Nat} {e : TypeId} {sz : Nat} {v : Value} {n : Nat} {xs : List Value} (h : w.ownsRow base e sz v n xs) (hb : base' ≤ base) : w.ownsRow base' e sz v n xs := h.mono hb

/-- the cells of a slice, one after the other -/
theorem slice_cells {α : Type} {n : Nat} {w : World} {sz : Nat} {E : World → Nat → Nat → α → Prop} (cells : α → List Value) (hs : ∀ x, (cells x).length = sz) (hsz : 0 < sz) (hE : ∀ b o x, E w b o x → CellsE w b o (cells x)) {v : Value} {xs : List α} {a : Option Addr} {c : Nat} (h : SliceIn n w sz E v xs) (hv : v = .slice a xs.length c) :
    (∀ b, a = some b → ∀ j u, (xs.flatMap cells)[j]? = some u → w.cell? (b.add j) = some u) ∧ (a = none → xs.length = 0) := by
  obtain ⟨a', cap, hv', hl, hc, he⟩ := h
  rw [hv] at hv'
  cases hv'
  refine ⟨fun b hb j u hj => ?_, fun ha => ?_⟩
  · have hlt := (List.getElem?_eq_some_iff.1 hj).1
    rw [flatMap_len cells sz hs] at hlt
    have hq : j / sz < xs.length := Nat.div_lt_of_lt_mul (by rw [Nat.mul_comm]; exact hlt)
    have hr : j % sz < sz := Nat.mod_lt _ hsz
    obtain ⟨b', off, ha, hb', e⟩ := he (j / sz) (xs[j / sz]) (List.getElem?_eq_getElem hq)
    rw [hb] at ha
    cases ha
    have hk := flatMap_at cells sz hs xs (j / sz) (j % sz) _ (List.getElem?_eq_getElem hq) hr
    rw [show j / sz * sz + j % sz = j from by rw [Nat.mul_comm]; exact Nat.div_add_mod j sz] at hk
    rw [hk] at hj
    have := hE _ _ _ e (j % sz) u hj
    rw [show ((⟨b', off, none⟩ : Addr).add j) = ⟨b', off + j, none⟩ from by unfold Addr.add; split <;> simp_all]
    rwa [Nat.add_assoc, show j / sz * sz + j % sz = j from by rw [Nat.mul_comm]; exact Nat.div_add_mod j sz] at this
  · by_cases h0 : xs.length = 0
    · exact h0
    · obtain ⟨b, off, hb, _⟩ := he 0 xs[0] (List.getElem?_eq_getElem (by omega))
      rw [ha] at hb; cases hb

/-- 'append(append([]T(nil), x...), m, m)' -/
theorem copy_row {P : Program} {t e : TypeId} {size bytes : Nat} (hE : ElemOf P t e size bytes) (ty : TypeId) (w : World) (a : Option Addr) (m c : Nat) (news mk : List Value) (hl : news.length = m * size)
    (hnews : ∀ b, a = some b → ∀ j u, news[j]? = some u → w.cell? (b.add j) = some u) (hn : a = none → m = 0) (h1 : ∀ u ∈ news, u.oneCell' = true) (hm : m ≤ 1073741824) (hmk : mk.length = 2 * size) (hmk1 : ∀ u ∈ mk, u.oneCell' = true) :
    ∃ v1 W1 g cap W2, (Builtin.append_ #[t, t] ty #[.slice none 0 0, .slice a m c]).run P w = .ok v1 W1 ∧ (Builtin.append_ #[t, t] ty #[v1, .slice (some ⟨W1.heap.size, 0, none⟩) 2 2]).run P (W1.alloc (.cells mk.toArray e)) = .ok (.slice (some ⟨g, 0, none⟩) (m + 2) cap) W2 ∧
      W2.ownsRow w.heap.size e size (.slice (some ⟨g, 0, none⟩) (m + 2) cap) (m + 2) (news ++ mk) ∧ Keep (fun k => k < w.heap.size) w W2 ∧ w.heap.size ≤ W1.heap.size := by
  obtain ⟨v1, W1, hr1, ho1, hk1⟩ := app_copy hE ty w a m c news hl hnews hn h1 hm
  obtain ⟨v2, W2, hr2, ho2, hk2, g2, cap2, hv2, hg2, hl2⟩ := app hE ty (w := W1.alloc (.cells mk.toArray e)) (own_kept ho1 (Keep.alloc (fun _ => True) _ _) (fun _ _ => trivial)) ⟨W1.heap.size, 0, none⟩ 2 2 mk hmk
    (fun j u hj => by
      have := cells_of_block (new_block W1 (.cells mk.toArray e)) j u (by simpa using hj)
      simp only [Nat.zero_add] at this
      rw [show ((⟨W1.heap.size, 0, none⟩ : Addr).add j) = ⟨W1.heap.size, j, none⟩ from by unfold Addr.add; split <;> simp_all]
      exact this) hmk1 (by omega) (by omega) (by have := hk1.size; simp; omega)
  subst hv2
  exact ⟨v1, W1, g2, cap2, W2, hr1, hr2, ho2, ((hk1.mono fun _ _ _ => trivial).trans (Keep.alloc _ _ _)).trans (hk2.mono fun b _ h => own_not ho1 h), hk1.size⟩

theorem flat_one {α : Type} (cells : α → List Value) (h : ∀ x, ∀ u ∈ cells x, u.oneCell' = true) (xs : List α) : ∀ u ∈ xs.flatMap cells, u.oneCell' = true := by
  intro u hu
  obtain ⟨x, _, hx⟩ := List.mem_flatMap.1 hu
  exact h x u hx

/-- a copied row: the slice, and the whole row with its marks -/
def CopiedRow (base : Nat) (e : TypeId) (sz : Nat) (w : World) (v : Value) (m : Nat) (xs : List Value) : Prop := ∃ g cap, v = .slice (some ⟨g, 0, none⟩) m cap ∧ w.ownsRow base e sz (.slice (some ⟨g, 0, none⟩) (m + 2) cap) (m + 2) xs

theorem CopiedRow.keep {base : Nat} {e : TypeId} {sz : Nat} {w w' : World} {v : Value} {m : Nat} {xs : List Value} {C : Nat → Prop} (h : CopiedRow base e sz w v m xs) (hK : Keep C w w') (hC : ∀ b, base ≤ b → b < w.heap.size → C b) : CopiedRow base e sz w' v m xs := by
  obtain ⟨g, cap, rfl, h⟩ := h
  exact ⟨g, cap, rfl, own_kept h hK (fun b hb => by have := World.ownsRow.lt h b hb; exact hC b this.1 this.2)⟩

theorem CopiedRow.mono {base base' : Nat} {e : TypeId} {sz : Nat} {w : World} {v : Value} {m : Nat} {xs : List Value} (h : CopiedRow base e sz w v m xs) (hb : base' ≤ base) : CopiedRow base' e sz w v m xs := by
  obtain ⟨g, cap, rfl, h⟩ := h
  exact ⟨g, cap, rfl, h.mono hb⟩

theorem CopiedRow.slice {α : Type} {base sz : Nat} {e : TypeId} {w : World} {v : Value} {xs : List α} (cells : α → List Value) (hs : ∀ x, (cells x).length = sz) {mk : List Value} {E : World → Nat → Nat → α → Prop} (hE : ∀ b o x, x ∈ xs → CellsE w b o (cells x) → E w b o x)
    (h : CopiedRow base e sz w v xs.length (xs.flatMap cells ++ mk)) (hl : xs.length ≤ 1073741824) : SliceIn w.heap.size w sz E v xs := by
  obtain ⟨g, cap, rfl, ho⟩ := h
  have hc := own_cap ho
  refine ⟨_, cap, rfl, hl, ⟨by omega, hc.2.1⟩, fun k x hx => ⟨g, 0, rfl, hc.2.2.1, hE _ _ _ (List.mem_of_getElem? hx) fun j u hj => ?_⟩⟩
  have hj7 : j < sz := by rw [← hs x]; exact (List.getElem?_eq_some_iff.1 hj).1
  have h1 := flatMap_at cells sz hs xs k j x hx hj7
  have h2 : (xs.flatMap cells ++ mk)[k * sz + j]? = some u := by
    rw [← hj, ← h1]
    refine List.getElem?_append_left ?_
    have h3 : (xs.flatMap cells)[k * sz + j]? = some u := by rw [h1, hj]
    exact (List.getElem?_eq_some_iff.1 h3).1
  have := own_elem ho _ _ h2
  rw [Nat.zero_add]
  exact this

theorem Keep.drewN' (C : Nat → Prop) (w : World) (n : Nat) : Keep C w (w.drewN n) := ⟨rfl, rfl, rfl, Nat.le_refl _, fun _ _ _ => rfl⟩

theorem eq_at {α : Type} [DecidableEq α] {xs ys : List α} (hl : xs.length = ys.length) (h : ∀ j, j < xs.length → xs[j]? = ys[j]?) : xs = ys := by
  refine List.ext_getElem? fun j => ?_
  rcases Nat.lt_or_ge j xs.length with hj | hj
  · exact h j hj
  · rw [List.getElem?_eq_none hj, List.getElem?_eq_none (by omega)]

theorem list_abs {P : Program} {ops : Array Oper} {Q : Exit → Act → World → Prop} {l : List Oper} {a : Act} {w : World} (G : World → Prop) (h : G w) (k : ∀ W, G W → wpList P ops Q l a W) : wpList P ops Q l a w := k w h

theorem Calls_abs2 {P : Program} {f : FuncId} {args : Array Value} {R : Ending → World → Prop} {w : World} (G : World → Prop) (h : G w) (k : ∀ W, G W → Calls P f args W R) : Calls P f args w R := k w h
end Go.Proofs
