/- Parts of the proof. -/
import Derived.Test.YtnponcjnahicnaaGreatDoorRows
import Derived.Test.YtnponcjnahicnaaGreatDoorDlDToItoa
import Derived.WalkKit
import Derived.ProofKit
import Derived.OpenShut
import Derived.Deep.Slices
import Derived.Deep.Strs
import Derived.Lib.SmallJoins

namespace Go.Proofs
open Go.RowKit Go.Ink Go.ChangeShapes Go.WideShapes
set_option linter.unusedVariables false
set_option linter.unusedSimpArgs false
section
variable {H : Type} {enc : TypeId × Value → H} {w : World}
def bulk (d : DataW H) : Nat := YtnponcjnahicnaaGreatDoor.Rows.uptoBulk d
def bulks (l : List (DataW H)) : Nat := YtnponcjnahicnaaGreatDoor.Rows.uptoBulkAll l
theorem bulk_pos (d : DataW H) : 1 ≤ bulk d := by
  cases d with
  | lit l => cases l <;> simp [bulk, YtnponcjnahicnaaGreatDoor.Rows.uptoBulk]
  | nil => simp [bulk, YtnponcjnahicnaaGreatDoor.Rows.uptoBulk]
  | ptr d => simp [bulk, YtnponcjnahicnaaGreatDoor.Rows.uptoBulk]
  | slice elems spare => simp [bulk, YtnponcjnahicnaaGreatDoor.Rows.uptoBulk]
  | agg parts => simp [bulk, YtnponcjnahicnaaGreatDoor.Rows.uptoBulk]
  | iface t d => simp [bulk, YtnponcjnahicnaaGreatDoor.Rows.uptoBulk]
  | map entries => simp [bulk, YtnponcjnahicnaaGreatDoor.Rows.uptoBulk]
  | held h => simp [bulk, YtnponcjnahicnaaGreatDoor.Rows.uptoBulk]
theorem bulks_sum (l : List (DataW H)) : bulks l = (l.map bulk).sum := by
  induction l with
  | nil => simp [bulks, YtnponcjnahicnaaGreatDoor.Rows.uptoBulkAll]
  | cons x r ih =>
    simp only [List.map_cons, List.sum_cons, ← ih]
    simp [bulks, bulk, YtnponcjnahicnaaGreatDoor.Rows.uptoBulkAll]
theorem bulk_agg (l : List (DataW H)) : bulk (.agg l) = (l.map bulk).sum + 1 := by
  rw [← bulks_sum]; simp [bulks, bulk, YtnponcjnahicnaaGreatDoor.Rows.uptoBulk]
theorem bulk_slice (l s : List (DataW H)) : (l.map bulk).sum + 1 ≤ bulk (.slice l s) := by
  rw [← bulks_sum]
  simp only [bulks, bulk, YtnponcjnahicnaaGreatDoor.Rows.uptoBulk]; omega
theorem sum_range_le {n : Nat} {f g : Nat → Nat} (h : ∀ i, i < n → f i ≤ g i) : ((List.range n).map f).sum ≤ ((List.range n).map g).sum := by
  induction n with
  | zero => simp
  | succ n ih =>
    have h1 := ih (fun i hi => h i (by omega))
    have h2 := h n (by omega)
    simp only [List.range_succ, List.map_append, List.sum_append, List.map_cons, List.map_nil, List.sum_cons, List.sum_nil]
    omega
theorem at_le_sum : ∀ {n : Nat} {g : Nat → Nat} {i : Nat}, i < n → g i ≤ ((List.range n).map g).sum := by
  intro n g
  induction n with
  | zero => intro i h; omega
  | succ n ih =>
    intro i hi
    simp only [List.range_succ, List.map_append, List.sum_append, List.map_cons, List.map_nil, List.sum_cons, List.sum_nil]
    rcases Nat.lt_succ_iff_lt_or_eq.1 hi with h | rfl
    · have := ih h; omega
    · omega
theorem add_none {a : Addr} (h : a.spot = none) (n : Nat) : a.add n = ⟨a.block, a.off + n, none⟩ := by
  obtain ⟨b, o, s⟩ := a
  simp only at h
  subst h
  unfold Addr.add
  split <;> simp_all

theorem read_slice {α : Type} [Inhabited α] {t e : TypeId} {sz fuel : Nat} {cs : List Value} {y : DataW H × List MemPlace} {E : World → Nat → Nat → α → Prop} {size : α → Nat}
    (ht : Tryz.prog.underlying t = some (.slice e)) (hc : Tryz.prog.cellsOf e = sz) (hp : 0 < sz)
    (h : DataW.trod enc Tryz.prog w 0 (fun _ => true) true fuel t cs = some y) (hb : bulk y.1 ≤ 1048576)
    (hel : ∀ b off n cs' y', b < w.heap.size → (∀ j v, cs'[j]? = some v → w.cell? ⟨b, off + j, none⟩ = some v) →
      DataW.trod enc Tryz.prog w 0 (fun _ => true) true n e cs' = some y' → bulk y'.1 ≤ 1048576 → ∃ x, E w b off x ∧ size x ≤ bulk y'.1) :
    ∃ v xs, cs = [v] ∧ SliceIn w.heap.size w sz E v xs ∧ xs.length + 1 ≤ bulk y.1 ∧ (xs.map size).sum + 1 ≤ bulk y.1 := by
  rcases Deep.open_slice ht h with ⟨rfl, rfl⟩ | ⟨a, len, cap, m, n, D, Pl, rfl, _, hl, hm, hmm, rfl, hx⟩
  · exact ⟨_, [], rfl, ⟨none, 0, rfl, by simp, by simp [maxLen], by simp⟩, by simpa using bulk_pos _, by simpa using bulk_pos _⟩
  simp only [if_true] at hmm
  simp only at hb
  have hB := bulk_slice ((List.range len).map D) ((List.range (m - len)).map fun j => D (len + j))
  rw [List.map_map] at hB
  have hD : ∀ i, i < len → bulk (D i) ≤ ((List.range len).map (bulk ∘ D)).sum := fun i hi => at_le_sum (g := bulk ∘ D) hi
  have hone : len ≤ ((List.range len).map (bulk ∘ D)).sum := by
    have := sum_range_le (n := len) (f := fun _ => 1) (g := bulk ∘ D) (fun i _ => bulk_pos _)
    have h1 : ((List.range len).map fun _ => 1).sum = len := by rw [List.map_const', List.sum_replicate_nat, List.length_range, Nat.mul_one]
    omega
  have ha : 0 < len → a.spot = none := fun h0 => by
    obtain ⟨cs', h1, _⟩ := hx 0 (by omega)
    obtain ⟨_, hl', hcell⟩ := World.cells?_some h1
    have h2 : cs'[0]? = some (cs'[0]'(by omega)) := List.getElem?_eq_getElem _
    have h3 := hcell 0 (by omega)
    rw [h2] at h3
    simp only [Nat.zero_mul, Addr.add, if_true] at h3
    unfold World.cell? at h3
    split at h3
    · split at h3
      · cases h3
      · rename_i hs
        cases hsp : a.spot with
        | none => rfl
        | some q => rw [hsp] at hs; simp at hs
    · cases h3
  have key : ∀ i, i < len → ∃ x, (E w a.block (a.off + i * sz) x ∧ a.block < w.heap.size) ∧ size x ≤ bulk (D i) := fun i hi => by
    have hsp := ha (by omega)
    obtain ⟨cs', h1, h2⟩ := hx i (by omega)
    obtain ⟨_, hl', hcell⟩ := World.cells?_some h1
    have hblk : a.block < w.heap.size := by
      have := World.cells?_block h1 (by omega)
      rwa [add_none hsp] at this
    obtain ⟨x, hE, hs⟩ := hel a.block (a.off + i * sz) n cs' _ hblk (fun j v hj => by
      have hjl := (List.getElem?_eq_some_iff.1 hj).1
      have h3 := hcell j (by omega)
      rw [Deep.add_add, add_none hsp, hj, hc, ← Nat.add_assoc] at h3
      exact h3) h2 (by have := hD i hi; simp only; omega)
    exact ⟨x, ⟨hE, hblk⟩, hs⟩
  obtain ⟨f, hf⟩ := Deep.choose_lt key
  have hsum := sum_range_le (n := len) (f := size ∘ f) (g := bulk ∘ D) (fun i hi => (hf i hi).2)
  refine ⟨_, (List.range len).map f, rfl, ⟨some a, cap, by simp, by simp; omega, ⟨by simpa using hl, hm⟩, fun k x hk => ?_⟩, by simp only [List.length_map, List.length_range]; omega, by rw [List.map_map]; simp only; omega⟩
  have hkl : k < len := by simpa using (List.getElem?_eq_some_iff.1 hk).1
  rw [List.getElem?_map, List.getElem?_range hkl] at hk
  simp only [Option.map_some, Option.some.injEq] at hk
  subst hk
  refine ⟨a.block, a.off, ?_, (hf k hkl).1.2, (hf k hkl).1.1⟩
  have hsp := ha (by omega)
  obtain ⟨b, o, s⟩ := a
  simp only at hsp
  rw [hsp]
end
end Go.Proofs


namespace Go.Proofs
open Go.RowKit Go.Ink Go.ChangeShapes Go.WideShapes
set_option linter.unusedVariables false
set_option linter.unusedSimpArgs false
section
variable {H : Type} {enc : TypeId × Value → H} {w : World}
theorem cells_term : Tryz.prog.cellsOf 77 = 2 := by kernel_rfl
theorem cells_atom : Tryz.prog.cellsOf 24 = 2 := by kernel_rfl
theorem cells_lit : Tryz.prog.cellsOf 79 = 7 := by kernel_rfl
theorem cells_rule : Tryz.prog.cellsOf 27 = 3 := by kernel_rfl
theorem cells_bool : Tryz.prog.cellsOf 4 = 1 := by kernel_rfl
theorem cells_string : Tryz.prog.cellsOf 9 = 1 := by kernel_rfl
theorem cells_terms : Tryz.prog.cellsOf 22 = 1 := by kernel_rfl
theorem cells_lits : Tryz.prog.cellsOf 25 = 1 := by kernel_rfl
theorem cells_kind : Tryz.prog.cellsOf 75 = 1 := by kernel_rfl

def FineT (t : TermD) : Prop := t.text.size ≤ 1048576
def FineA (a : qfx) : Prop := a.pred.size ≤ 1048576 ∧ ∀ t, t ∈ a.args → FineT t
def FineL (L : LitD) : Prop := FineA L.atom ∧ FineT L.left ∧ FineT L.right
def FineR (r : RuleD) : Prop := FineA r.head ∧ ∀ L, L ∈ r.body → FineL L
theorem slice_all {α : Type} {n : Nat} {w : World} {sz : Nat} {E : World → Nat → Nat → α → Prop} {G : α → Prop} {v : Value} {xs : List α} (h : SliceIn n w sz E v xs) (hE : ∀ b o x, E w b o x → G x) : ∀ x, x ∈ xs → G x := by
  intro x hx
  obtain ⟨a, cap, _, _, _, hel⟩ := h
  obtain ⟨k, hk⟩ := List.mem_iff_getElem?.1 hx
  obtain ⟨b, off, _, _, he⟩ := hel k x hk
  exact hE _ _ _ he
set_option maxRecDepth 100000 in
theorem read_term {fuel : Nat} {cs : List Value} {y : DataW H × List MemPlace} (h : DataW.trod enc Tryz.prog w 0 (fun _ => true) true fuel 77 cs = some y) :
    ∃ t : TermD, cs = [.bool t.var, .string t.text] ∧ t.text.size ≤ bulk y.1 := by
  obtain ⟨y0, y1, n, rfl, hl, h0, h1⟩ := trod_struct2 Tryz.underlying77 h
  rw [cells_term] at hl
  match cs, hl with
  | [c0, c1], _ =>
    simp only [cells_bool, cells_string, List.drop_zero, List.drop_succ_cons, List.take_succ_cons, List.take_zero] at h0 h1
    obtain ⟨b, hb, _⟩ := DataW.trod_bool Tryz.underlying4 h0
    obtain ⟨s, hs, hy, _⟩ := DataW.trod_string Tryz.underlying9 h1
    cases hb
    cases hs
    refine ⟨⟨b, s⟩, rfl, ?_⟩
    have hb1 : bulk y1.1 = s.size + 1 := by
      rw [hy]
      show s.data.toList.length + 1 = _
      rw [Array.length_toList]
      rfl
    have hb2 := bulk_agg [y0.1, y1.1]
    simp only [List.map_cons, List.map_nil, List.sum_cons, List.sum_nil] at hb2
    simp only [hb2]
    omega
set_option maxRecDepth 100000 in
theorem read_terms {fuel : Nat} {cs : List Value} {y : DataW H × List MemPlace} (h : DataW.trod enc Tryz.prog w 0 (fun _ => true) true fuel 22 cs = some y) (hb : bulk y.1 ≤ 1048576) :
    ∃ v ts, cs = [v] ∧ qad w.heap.size w v ts ∧ ts.length + 1 ≤ bulk y.1 ∧ ∀ t, t ∈ ts → FineT t := by
  obtain ⟨v, xs, h1, h2, h3, _⟩ := read_slice (E := fun w b o t => TermE w b o t ∧ FineT t) (size := fun _ => 0) Tryz.underlying22 cells_term (by omega) h hb (fun b off n cs' y' _ hc h' hb' => by
    obtain ⟨t, rfl, ht⟩ := read_term h'
    exact ⟨t, ⟨⟨hc 0 _ rfl, hc 1 _ rfl⟩, by unfold FineT; omega⟩, by omega⟩)
  exact ⟨v, xs, h1, h2.mono fun _ _ _ _ h => h.1, h3, slice_all h2 fun _ _ _ h => h.2⟩
set_option maxRecDepth 100000 in
theorem read_atom {fuel : Nat} {cs : List Value} {y : DataW H × List MemPlace} (h : DataW.trod enc Tryz.prog w 0 (fun _ => true) true fuel 24 cs = some y) (hb : bulk y.1 ≤ 1048576) :
    ∃ (a : qfx) (sa : Value), cs = [.string a.pred, sa] ∧ qad w.heap.size w sa a.args ∧ a.args.length + 1 ≤ bulk y.1 ∧ FineA a := by
  obtain ⟨y0, y1, n, rfl, hl, h0, h1⟩ := trod_struct2 Tryz.underlying24 h
  rw [cells_atom] at hl
  match cs, hl with
  | [c0, c1], _ =>
    simp only [cells_terms, cells_string, List.drop_zero, List.drop_succ_cons, List.take_succ_cons, List.take_zero] at h0 h1
    simp only [bulk_agg, List.map_cons, List.map_nil, List.sum_cons, List.sum_nil] at hb ⊢
    obtain ⟨s, hs, hy, _⟩ := DataW.trod_string Tryz.underlying9 h0
    obtain ⟨v, ts, hv, ht, hlen, hfine⟩ := read_terms h1 (by omega)
    have hb1 : bulk y0.1 = s.size + 1 := by
      rw [hy]
      show s.data.toList.length + 1 = _
      rw [Array.length_toList]
      rfl
    cases hs
    cases hv
    exact ⟨⟨s, ts⟩, c1, rfl, ht, by simp only; omega, by simp only; omega, hfine⟩
set_option maxRecDepth 100000 in
theorem read_lit {fuel : Nat} {cs : List Value} {y : DataW H × List MemPlace} (h : DataW.trod enc Tryz.prog w 0 (fun _ => true) true fuel 79 cs = some y) (hb : bulk y.1 ≤ 1048576) :
    ∃ (L : LitD) (sa : Value), cs = qu L sa ∧ qad w.heap.size w sa L.atom.args ∧ L.atom.args.length + 1 ≤ bulk y.1 ∧ FineL L := by
  obtain ⟨y0, y1, y2, y3, n, rfl, hl, h0, h1, h2, h3⟩ := Go.Joins.trod_struct4 Tryz.underlying79 h
  rw [cells_lit] at hl
  match cs, hl with
  | [c0, c1, c2, c3, c4, c5, c6], _ =>
    simp only [cells_kind, cells_atom, cells_term, List.drop_zero, List.drop_succ_cons, List.take_succ_cons, List.take_zero] at h0 h1 h2 h3
    simp only [bulk_agg, List.map_cons, List.map_nil, List.sum_cons, List.sum_nil] at hb ⊢
    obtain ⟨k, hk, _⟩ := DataW.trod_int Tryz.underlying75 h0
    obtain ⟨a, sa, ha, ht, hlen, hfine⟩ := read_atom h1 (by omega)
    obtain ⟨l, hl, hfl⟩ := read_term h2
    obtain ⟨r, hr, hfr⟩ := read_term h3
    cases hk
    cases ha
    cases hl
    cases hr
    exact ⟨⟨k, a, l, r⟩, c2, rfl, ht, by simp only; omega, hfine, by unfold FineT; simp only; omega, by unfold FineT; simp only; omega⟩
set_option maxRecDepth 100000 in
theorem read_lits {fuel : Nat} {cs : List Value} {y : DataW H × List MemPlace} (h : DataW.trod enc Tryz.prog w 0 (fun _ => true) true fuel 25 cs = some y) (hb : bulk y.1 ≤ 1048576) :
    ∃ v ls, cs = [v] ∧ qfj w.heap.size w v ls ∧ (ls.map fun L => L.atom.args.length + 1).sum + 1 ≤ bulk y.1 ∧ ∀ L, L ∈ ls → FineL L := by
  obtain ⟨v, xs, h1, h2, _, h3⟩ := read_slice (E := fun W b o L => LitE w.heap.size W b o L ∧ FineL L) (size := fun L : LitD => L.atom.args.length + 1) Tryz.underlying25 cells_lit (by omega) h hb (fun b off n cs' y' _ hc h' hb' => by
    obtain ⟨L, sa, rfl, ht, hlen, hfine⟩ := read_lit h' hb'
    exact ⟨L, ⟨⟨sa, hc, ht⟩, hfine⟩, hlen⟩)
  exact ⟨v, xs, h1, h2.mono fun _ _ _ _ h => h.1, h3, slice_all h2 fun _ _ _ h => h.2⟩

def ruleSize (r : RuleD) : Nat := r.head.args.length + (r.body.map fun L => L.atom.args.length + 1).sum + 1
set_option maxRecDepth 100000 in
theorem read_rule {fuel : Nat} {cs : List Value} {y : DataW H × List MemPlace} (h : DataW.trod enc Tryz.prog w 0 (fun _ => true) true fuel 27 cs = some y) (hb : bulk y.1 ≤ 1048576) :
    ∃ (r : RuleD) (sh sb : Value), cs = [.string r.head.pred, sh, sb] ∧ RuleIn w.heap.size w sh sb r ∧ ruleSize r ≤ bulk y.1 ∧ FineR r := by
  obtain ⟨y0, y1, n, rfl, hl, h0, h1⟩ := trod_struct2 Tryz.underlying27 h
  rw [cells_rule] at hl
  match cs, hl with
  | [c0, c1, c2], _ =>
    simp only [cells_lits, cells_atom, List.drop_zero, List.drop_succ_cons, List.take_succ_cons, List.take_zero] at h0 h1
    simp only [bulk_agg, List.map_cons, List.map_nil, List.sum_cons, List.sum_nil] at hb ⊢
    obtain ⟨a, sa, ha, ht, hlen, hf1⟩ := read_atom h0 (by omega)
    obtain ⟨v, ls, hv, hls, hlen2, hf2⟩ := read_lits h1 (by omega)
    cases ha
    cases hv
    exact ⟨⟨a, ls⟩, c1, c2, rfl, ⟨ht, hls⟩, by simp only [ruleSize]; omega, hf1, hf2⟩
end
end Go.Proofs
