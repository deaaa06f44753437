/- inklingref09.copyAtom, CopyBody, CopyRule. -/
import Derived.Test.YtdedcebabimioaaProg
import Derived.Test.YtdedcebabimioaaSet
import Derived.StillTailTactics
import Derived.Deep.RegionHeld3
namespace Go.Proofs
open Go.RowKit Go.Ink
set_option linter.unusedVariables false
set_option linter.unusedSimpArgs false
attribute [local go_sem] Oper.semAt_some

theorem el_terms : ElemOf Try.prog 22 35 2 24 := elem_of (z := .agg #[.bool false, .string ⟨#[]⟩]) (by kernel_rfl) (by kernel_rfl) rfl (by decide) (by decide)

/-- the mark behind a copied list of terms -/
def markT : TermD := ⟨false, ⟨#[109, 97, 114, 107]⟩⟩
def termCells (ts : List TermD) : List Value := ts.flatMap fun t => [.bool t.var, .string t.text]
theorem termCells_len (ts : List TermD) : (termCells ts).length = ts.length * 2 := flatMap_len _ 2 (fun _ => rfl) ts

theorem terms_cells {n : Nat} {w : World} {v : Value} {ts : List TermD} {a : Addr} {c : Nat} (h : TermsIn n w v ts) (hv : v = .slice (some a) ts.length c) : ∀ j u, (termCells ts)[j]? = some u → w.cell? (a.add j) = some u := by
  intro j u hj
  have hlt := (List.getElem?_eq_some_iff.1 hj).1
  rw [termCells_len] at hlt
  obtain ⟨a', cap, hv', hl, hc, he⟩ := h
  rw [hv] at hv'
  cases hv'
  obtain ⟨b, off, ha, hb, e1, e2⟩ := he (j / 2) (ts[j / 2]'(by omega)) (List.getElem?_eq_getElem _)
  cases ha
  have hk := flatMap_at (fun t : TermD => [Value.bool t.var, .string t.text]) 2 (fun _ => rfl) ts (j / 2) (j % 2) _ (List.getElem?_eq_getElem (by omega)) (Nat.mod_lt _ (by decide))
  rw [show j / 2 * 2 + j % 2 = j from by omega] at hk
  rw [termCells, hk] at hj
  have hadd : ∀ m, ((⟨b, off, none⟩ : Addr).add m) = ⟨b, off + m, none⟩ := by intro m; unfold Addr.add; split <;> simp_all
  rw [hadd]
  rcases Nat.mod_two_eq_zero_or_one j with h | h
  · rw [h] at hj; simp at hj; subst hj
    rw [show off + j = off + j / 2 * 2 from by omega]; exact e1
  · rw [h] at hj; simp at hj; subst hj
    rw [show off + j = off + j / 2 * 2 + 1 from by omega]; exact e2

/-- append of nothing to nil -/
theorem run_append_nothing {P : Program} {t e : TypeId} {size bytes : Nat} (hE : ElemOf P t e size bytes) (ty : TypeId) (w : World) (a : Option Addr) (c : Nat) :
    (Builtin.append_ #[t, t] ty #[.slice none 0 0, .slice a 0 c]).run P w = .ok (.slice none 0 0) w := by
  obtain ⟨ht, hsz, hby, i, z, hi, hz, hsize, hbytes, hzs⟩ := hE
  cases a <;> simp [Builtin.append_, run_underlying ht, sizeOf, typeInfo, hi, Builtin.lenOf, Builtin.firstCells, loadCells, loadCellsFrom]

/-- 'append([]T(nil), x...)' -/
theorem app_copy {P : Program} {t e : TypeId} {size bytes : Nat} (hE : ElemOf P t e size bytes) (ty : TypeId) (w : World) (a : Option Addr) (m c : Nat) (news : List Value) (hl : news.length = m * size)
    (hnews : ∀ b, a = some b → ∀ j u, news[j]? = some u → w.cell? (b.add j) = some u) (hn : a = none → m = 0) (h1 : ∀ u ∈ news, u.oneCell' = true) (hm : m ≤ 1073741824) :
    ∃ v' w', (Builtin.append_ #[t, t] ty #[.slice none 0 0, .slice a m c]).run P w = .ok v' w' ∧ w'.ownsRow w.heap.size e size v' m news ∧ Keep (fun _ => True) w w' := by
  by_cases h0 : m = 0
  · subst h0
    have : news = [] := List.eq_nil_of_length_eq_zero (by simpa using hl)
    subst this
    exact ⟨_, _, run_append_nothing hE ty w a c, World.ownsRow_nil _ _ _ _, Keep.refl _ _⟩
  · cases a with
    | none => exact absurd (hn rfl) h0
    | some b =>
      obtain ⟨v', w', hr, ho, hK, g, cap, hv, hg, hlt⟩ := app hE ty (World.ownsRow_nil w w.heap.size e size) b m c news hl (hnews b rfl) h1 (by omega) (by omega) (Nat.le_refl _)
      exact ⟨v', w', hr, by simpa using ho, hK.mono (fun k _ _ => by simp [Value.ownBlock])⟩

/-- blocks that are no row of the slice's own -/
theorem own_not {w : World} {base : Nat} {e : TypeId} {sz : Nat} {v : Value} {n : Nat} {xs : List Value} (h : w.ownsRow base e sz v n xs) {b : Nat} (hb : b < base) : some b ≠ v.ownBlock := fun he => by
  have := (World.ownsRow.lt h b he.symm).1; omega

theorem copyAtom_any (n0 : Nat) (p : ByteArray) (v : Value) (ts : List TermD) (w : World) (hs : TermsIn n0 w v ts) (hn : n0 ≤ w.heap.size) :
    Calls Try.prog 25 #[.agg #[.string p, v]] w fun e w' => ∃ g cap, e = .returned (.agg #[.string p, .slice (some ⟨g, 0, none⟩) ts.length cap]) ∧ Keep (fun k => k < w.heap.size) w w' ∧
      w'.ownsRow w.heap.size 35 2 (.slice (some ⟨g, 0, none⟩) (ts.length + 2) cap) (ts.length + 2) (termCells (ts ++ [markT, markT])) := by
  obtain ⟨a, capa, rfl, hlen, hcap, hel⟩ := id hs
  have Xhel := Lib.hid hel
  clear hel
  go_enter Try.func25, Try.ntmps25
  have k0 : Keep (fun _ => True) w ((w.alloc (.cells #[.string p, .slice a ts.length capa] 24)).alloc (.cells #[.string ⟨#[]⟩, .slice none 0 0] 24)) := (Keep.alloc _ _ _).trans (Keep.alloc _ _ _)
  obtain ⟨v1, W1, hr1, ho1, hk1⟩ := app_copy (P := Try.prog) el_terms 22 ((w.alloc (.cells #[.string p, .slice a ts.length capa] 24)).alloc (.cells #[.string ⟨#[]⟩, .slice none 0 0] 24)) a ts.length capa (termCells ts) (termCells_len ts)
    (fun b hb j u hj => k0.cell (terms_cells hs (by rw [hb]) j u hj) trivial) (fun ha => by
      by_cases h0 : ts.length = 0
      · exact h0
      · obtain ⟨b, off, hb, _⟩ := Xhel.out 0 ts[0] (List.getElem?_eq_getElem (by omega))
        rw [ha] at hb; cases hb) (by
      intro u hu
      simp only [termCells, List.mem_flatMap] at hu
      obtain ⟨t, _, ht⟩ := hu
      simp at ht
      rcases ht with rfl | rfl <;> rfl) hlen
  have z1 := hk1.size
  simp only [World.size_alloc] at z1 ho1
  obtain ⟨v2, W2, hr2, ho2, hk2, g2, cap2, hv2, hg2, hl2⟩ := app (P := Try.prog) el_terms 22 (w := W1.alloc (.cells (termCells [markT, markT]).toArray 35)) (own_kept ho1 (Keep.alloc (fun _ => True) _ _) (fun _ _ => trivial)) ⟨W1.heap.size, 0, none⟩ 2 2 (termCells [markT, markT]) rfl
    (fun j u hj => by
      have := cells_of_block (new_block W1 (.cells (termCells [markT, markT]).toArray 35)) j u (by simpa using hj)
      simp only [Nat.zero_add] at this
      rw [show ((⟨W1.heap.size, 0, none⟩ : Addr).add j) = ⟨W1.heap.size, j, none⟩ from by unfold Addr.add; split <;> simp_all]
      exact this) (by simp [termCells, Value.oneCell']) (by omega) (by omega) (by simp; omega)
  subst hv2
  have kk : Keep (fun b => b < w.heap.size + 1 + 1) ((w.alloc (.cells #[.string p, .slice a ts.length capa] 24)).alloc (.cells #[.string ⟨#[]⟩, .slice none 0 0] 24)) W2 :=
    ((hk1.mono fun _ _ _ => trivial).trans (Keep.alloc _ _ _)).trans (hk2.mono fun b _ h => own_not ho1 h)
  have e0 := kk.heap (old_block (new_block w (.cells #[.string p, .slice a ts.length capa] 24)) (.cells #[.string ⟨#[]⟩, .slice none 0 0] 24)) (by omega)
  have e3 := kk.heap (new_block (w.alloc (.cells #[.string p, .slice a ts.length capa] 24)) (.cells #[.string ⟨#[]⟩, .slice none 0 0] 24)) (by simp)
  have e1 := cells_of_block e0 0 _ rfl
  have e2 := cells_of_block e0 1 _ rfl
  have e4 := cells_of_block e3 0 _ rfl
  have e5 := cells_of_block e3 1 _ rfl
  have e6 := box_free e3 0
  have e7 := box_free e3 1
  simp only [Nat.zero_add, Nat.add_zero, World.size_alloc] at e1 e2 e3 e4 e5 e6 e7
  have hown : W2.ownsRow w.heap.size 35 2 (.slice (some ⟨g2, 0, none⟩) (ts.length + 2) cap2) (ts.length + 2) (termCells (ts ++ [markT, markT])) := by
    have := ho2.mono (show w.heap.size ≤ w.heap.size + 1 + 1 by omega)
    simpa [termCells] using this
  have hcap2 : (ts.length : Int) ≤ cap2 := by
    rcases ho2.2 with ⟨h, _⟩ | ⟨g, c, cur, h, _, _, hnc, _⟩
    · cases h
    · cases h; omega
  have hgb : w.heap.size + 1 + 1 ≤ g2 := by
    rcases ho2.2 with ⟨h, _⟩ | ⟨g, c, cur, h, hb, _, hnc, _⟩
    · cases h
    · cases h; exact hb
  have kfin : Keep (fun b => b < w.heap.size) w W2 := (k0.mono fun _ _ _ => trivial).trans (kk.mono fun b _ h => by omega)
  clear e0
  have Xhr1 := Lib.hid hr1
  have Xhr2 := Lib.hid hr2
  have Xho1 := Lib.hid ho1
  have Xhk1 := Lib.hid hk1
  have Xho2 := Lib.hid ho2
  have Xhk2 := Lib.hid hk2
  have Xhg2 := Lib.hid hg2
  have Xhs := Lib.hid hs
  have Xe3 := Lib.hid e3
  have Xk0 := Lib.hid k0
  have Xkk := Lib.hid kk
  have Xhown := Lib.hid hown
  have Xkfin := Lib.hid kfin
  clear hr1 hr2 ho1 hk1 ho2 hk2 hg2 hs e3 k0 kk hown kfin
  go_wp2_with (at_builtin; first | refine go_app rfl _ _ _ rfl rfl rfl Xhr1.out ?_ | refine go_app rfl _ _ _ rfl rfl rfl Xhr2.out ?_)
  go_still_tail 8, (by kernel_rfl)
  change wpList _ _ _ _ _ W2.drew
  generalize hW3 : W2.drew = W3
  have f4 : W3.cell? ⟨w.heap.size + 1, 0, none⟩ = some (.string ⟨#[]⟩) := by rw [← hW3]; exact e4
  have f5 : W3.cell? ⟨w.heap.size + 1, 1, none⟩ = some (.slice none 0 0) := by rw [← hW3]; exact e5
  have f6 : W3.frozen? ⟨w.heap.size + 1, 0, none⟩ = false := by rw [← hW3]; exact e6
  have f7 : W3.frozen? ⟨w.heap.size + 1, 1, none⟩ = false := by rw [← hW3]; exact e7
  have f3 : W3.heap[w.heap.size + 1]? = some (.cells #[.string ⟨#[]⟩, .slice none 0 0] 24 (0, 0)) := by rw [← hW3]; exact Xe3.out
  have kfin3 : Keep (fun b => b < w.heap.size) w W3 := by rw [← hW3]; exact Xkfin.out.trans (Keep.drew _ _)
  have hown3 : W3.ownsRow w.heap.size 35 2 (.slice (some ⟨g2, 0, none⟩) (ts.length + 2) cap2) (ts.length + 2) (termCells (ts ++ [markT, markT])) := by rw [← hW3]; exact Xhown.out
  clear hW3 e1 e2 e4 e5 e6 e7
  have Xf3 := Lib.hid f3
  have Xkfin3 := Lib.hid kfin3
  have Xhown3 := Lib.hid hown3
  clear f3 kfin3 hown3
  go_wp2
  have q : ((W3.setCell ⟨w.heap.size + 1, 0, none⟩ (.string p)).setCell ⟨w.heap.size + 1, 1, none⟩ (.slice (some ⟨g2, 0, none⟩) ts.length cap2)).heap[w.heap.size + 1]? = some (.cells #[.string p, .slice (some ⟨g2, 0, none⟩) ts.length cap2] 24 (0, 0)) := set_at 1 _ (set_at 0 _ Xf3.out)
  have q0 := cells_of_block q 0 _ rfl
  have q1 := cells_of_block q 1 _ rfl
  simp only [Nat.zero_add, Nat.add_zero] at q0 q1
  have kf : ∀ u u', Keep (fun b => b ≠ w.heap.size + 1) W3 ((W3.setCell ⟨w.heap.size + 1, 0, none⟩ u).setCell ⟨w.heap.size + 1, 1, none⟩ u') := fun u u' => (Keep.setCell _ _ _ (by simp)).trans (Keep.setCell _ _ _ (by simp))
  refine bodyPost_ret (v := .agg #[.string p, .slice (some ⟨g2, 0, none⟩) ts.length cap2]) (by simp [results, Try.results25, go_sem, q0, q1]) rfl ⟨g2, cap2, rfl, ?_, ?_⟩
  · exact Xkfin3.out.trans ((kf _ _).mono fun b _ h => by omega)
  · exact own_kept Xhown3.out (kf _ _) (fun b hb => by simp [Value.ownBlock] at hb; omega)

end Go.Proofs
