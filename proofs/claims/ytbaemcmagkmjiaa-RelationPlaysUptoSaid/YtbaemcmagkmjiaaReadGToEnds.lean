/- What the reading of an argument says of memory: slices, and how much they hold. -/
import Derived.Test.YtbaemcmagkmjiaaRows
import Derived.Test.YtbaemcmagkmjiaaData
import Derived.WalkKit
import Derived.ProofKit
import Derived.OpenShut
import Derived.Deep.Slices
import Derived.Deep.Strs
import Derived.Lib.SmallJoins
import Derived.Test.YtbaemcmagkmjiaaRelK
import Derived.Test.YtbaemcmagkmjiaaRelBToRelD
import Derived.Test.YtbaemcmagkmjiaaPlayOToPlayP
import Derived.Carry
namespace Go.Proofs
open Go.RowKit Go.Ink Go.ChangeShapes Go.WideShapes
set_option linter.unusedVariables false
set_option linter.unusedSimpArgs false

/-- booleans that a slice holds -/
def BoolE (w : World) (b o : Nat) (s : Bool) : Prop := w.cell? ⟨b, o, none⟩ = some (.bool s)
abbrev BoolsIn (n : Nat) (w : World) (v : Value) (ss : List Bool) : Prop := SliceIn n w 1 BoolE v ss

section
variable {H : Type} {enc : TypeId × Value → H} {w : World}

def bulk (d : DataW H) : Nat := Ytbaemcmagkmjiaa.Rows.uptoBulk d
def bulks (l : List (DataW H)) : Nat := Ytbaemcmagkmjiaa.Rows.uptoBulkAll l
theorem bulk_pos (d : DataW H) : 1 ≤ bulk d := by
  cases d with
  | lit l => cases l <;> simp [bulk, Ytbaemcmagkmjiaa.Rows.uptoBulk]
  | nil => simp [bulk, Ytbaemcmagkmjiaa.Rows.uptoBulk]
  | ptr d => simp [bulk, Ytbaemcmagkmjiaa.Rows.uptoBulk]
  | slice elems spare => simp [bulk, Ytbaemcmagkmjiaa.Rows.uptoBulk]
  | agg parts => simp [bulk, Ytbaemcmagkmjiaa.Rows.uptoBulk]
  | iface t d => simp [bulk, Ytbaemcmagkmjiaa.Rows.uptoBulk]
  | map entries => simp [bulk, Ytbaemcmagkmjiaa.Rows.uptoBulk]
  | held h => simp [bulk, Ytbaemcmagkmjiaa.Rows.uptoBulk]
theorem bulks_sum (l : List (DataW H)) : bulks l = (l.map bulk).sum := by
  induction l with
  | nil => simp [bulks, Ytbaemcmagkmjiaa.Rows.uptoBulkAll]
  | cons x r ih =>
    simp only [List.map_cons, List.sum_cons, ← ih]
    simp [bulks, bulk, Ytbaemcmagkmjiaa.Rows.uptoBulkAll]
theorem bulk_agg (l : List (DataW H)) : bulk (.agg l) = (l.map bulk).sum + 1 := by
  rw [← bulks_sum]; simp [bulks, bulk, Ytbaemcmagkmjiaa.Rows.uptoBulk]
theorem bulk_slice (l s : List (DataW H)) : (l.map bulk).sum + 1 ≤ bulk (.slice l s) := by
  rw [← bulks_sum]
  simp only [bulks, bulk, Ytbaemcmagkmjiaa.Rows.uptoBulk]; omega
theorem sum_range_le {n : Nat} {f g : Nat → Nat} (h : ∀ i, i < n → f i ≤ g i) : ((List.range n).map f).sum ≤ ((List.range n).map g).sum := by
  induction n with
  | zero => simp
  | succ n ih =>
    have h1 := ih (fun i hi => h i (by omega))
    have h2 := h n (by omega)
    simp only [List.range_succ, List.map_append, List.sum_append, List.map_cons, List.map_nil, List.sum_cons, List.sum_nil]
    omega
theorem at_le_sum : ∀ {n : Nat} {g : Nat → Nat} {i : Nat}, i < n → g i ≤ ((List.range n).map g).sum := by
  intro n g
  induction n with
  | zero => intro i h; omega
  | succ n ih =>
    intro i hi
    simp only [List.range_succ, List.map_append, List.sum_append, List.map_cons, List.map_nil, List.sum_cons, List.sum_nil]
    rcases Nat.lt_succ_iff_lt_or_eq.1 hi with h | rfl
    · have := ih h; omega
    · omega
theorem add_none {a : Addr} (h : a.spot = none) (n : Nat) : a.add n = ⟨a.block, a.off + n, none⟩ := by
  obtain ⟨b, o, s⟩ := a
  simp only at h
  subst h
  unfold Addr.add
  split <;> simp_all

/-- A slice that is read, its elements by a reader of one element. -/
theorem read_slice {α : Type} [Inhabited α] {t e : TypeId} {sz fuel : Nat} {cs : List Value} {y : DataW H × List MemPlace} {E : World → Nat → Nat → α → Prop} {size : α → Nat}
    (ht : Try.prog.underlying t = some (.slice e)) (hc : Try.prog.cellsOf e = sz) (hp : 0 < sz)
    (h : DataW.trod enc Try.prog w 0 (fun _ => true) true fuel t cs = some y) (hb : bulk y.1 ≤ 1048576)
    (hel : ∀ b off n cs' y', b < w.heap.size → (∀ j v, cs'[j]? = some v → w.cell? ⟨b, off + j, none⟩ = some v) →
      DataW.trod enc Try.prog w 0 (fun _ => true) true n e cs' = some y' → bulk y'.1 ≤ 1048576 → ∃ x, E w b off x ∧ size x ≤ bulk y'.1) :
    ∃ v xs, cs = [v] ∧ SliceIn w.heap.size w sz E v xs ∧ xs.length + 1 ≤ bulk y.1 ∧ (xs.map size).sum + 1 ≤ bulk y.1 := by
  rcases Deep.open_slice ht h with ⟨rfl, rfl⟩ | ⟨a, len, cap, m, n, D, Pl, rfl, _, hl, hm, hmm, rfl, hx⟩
  · exact ⟨_, [], rfl, ⟨none, 0, rfl, by simp, by simp [maxLen], by simp⟩, by simpa using bulk_pos _, by simpa using bulk_pos _⟩
  simp only [if_true] at hmm
  simp only at hb
  have hB := bulk_slice ((List.range len).map D) ((List.range (m - len)).map fun j => D (len + j))
  rw [List.map_map] at hB
  have hD : ∀ i, i < len → bulk (D i) ≤ ((List.range len).map (bulk ∘ D)).sum := fun i hi => at_le_sum (g := bulk ∘ D) hi
  have hone : len ≤ ((List.range len).map (bulk ∘ D)).sum := by
    have := sum_range_le (n := len) (f := fun _ => 1) (g := bulk ∘ D) (fun i _ => bulk_pos _)
    have h1 : ((List.range len).map fun _ => 1).sum = len := by rw [List.map_const', List.sum_replicate_nat, List.length_range, Nat.mul_one]
    omega
  have ha : 0 < len → a.spot = none := fun h0 => by
    obtain ⟨cs', h1, _⟩ := hx 0 (by omega)
    obtain ⟨_, hl', hcell⟩ := World.cells?_some h1
    have h2 : cs'[0]? = some (cs'[0]'(by omega)) := List.getElem?_eq_getElem _
    have h3 := hcell 0 (by omega)
    rw [h2] at h3
    simp only [Nat.zero_mul, Addr.add, if_true] at h3
    unfold World.cell? at h3
    split at h3
    · split at h3
      · cases h3
      · rename_i hs
        cases hsp : a.spot with
        | none => rfl
        | some q => rw [hsp] at hs; simp at hs
    · cases h3
  have key : ∀ i, i < len → ∃ x, (E w a.block (a.off + i * sz) x ∧ a.block < w.heap.size) ∧ size x ≤ bulk (D i) := fun i hi => by
    have hsp := ha (by omega)
    obtain ⟨cs', h1, h2⟩ := hx i (by omega)
    obtain ⟨_, hl', hcell⟩ := World.cells?_some h1
    have hblk : a.block < w.heap.size := by
      have := World.cells?_block h1 (by omega)
      rwa [add_none hsp] at this
    obtain ⟨x, hE, hs⟩ := hel a.block (a.off + i * sz) n cs' _ hblk (fun j v hj => by
      have hjl := (List.getElem?_eq_some_iff.1 hj).1
      have h3 := hcell j (by omega)
      rw [Deep.add_add, add_none hsp, hj, hc, ← Nat.add_assoc] at h3
      exact h3) h2 (by have := hD i hi; simp only; omega)
    exact ⟨x, ⟨hE, hblk⟩, hs⟩
  obtain ⟨f, hf⟩ := Deep.choose_lt key
  have hsum := sum_range_le (n := len) (f := size ∘ f) (g := bulk ∘ D) (fun i hi => (hf i hi).2)
  refine ⟨_, (List.range len).map f, rfl, ⟨some a, cap, by simp, by simp; omega, ⟨by simpa using hl, hm⟩, fun k x hk => ?_⟩, by simp only [List.length_map, List.length_range]; omega, by rw [List.map_map]; simp only; omega⟩
  have hkl : k < len := by simpa using (List.getElem?_eq_some_iff.1 hk).1
  rw [List.getElem?_map, List.getElem?_range hkl] at hk
  simp only [Option.map_some, Option.some.injEq] at hk
  subst hk
  refine ⟨a.block, a.off, ?_, (hf k hkl).1.2, (hf k hkl).1.1⟩
  have hsp := ha (by omega)
  obtain ⟨b, o, s⟩ := a
  simp only at hsp
  rw [hsp]

end
end Go.Proofs

/- What the reading of an argument says of memory: numbers, slices of them, slices of these. -/
namespace Go.Proofs
open Go.RowKit Go.Ink Go.ChangeShapes Go.WideShapes
set_option linter.unusedVariables false
set_option linter.unusedSimpArgs false

section
variable {H : Type} {enc : TypeId × Value → H} {w : World}

theorem cells_int : Try.prog.cellsOf 3 = 1 := by kernel_rfl
theorem cells_ints : Try.prog.cellsOf 23 = 1 := by kernel_rfl
theorem okI_wf {n : Int} (h : (Lit.int .i64 n).wf = true) : okI n := by
  obtain ⟨h1, h2⟩ := Bool.and_eq_true_iff.1 (show (decide (IntKind.i64.min ≤ n) && decide (n ≤ IntKind.i64.max)) = true from h)
  have h3 : (-9223372036854775808 : Int) ≤ n := of_decide_eq_true h1
  have h4 : n ≤ (9223372036854775807 : Int) := of_decide_eq_true h2
  exact ⟨h3, h4⟩
theorem read_int {fuel : Nat} {cs : List Value} {y : DataW H × List MemPlace} (h : DataW.trod enc Try.prog w 0 (fun _ => true) true fuel 3 cs = some y) :
    ∃ x : Int, cs = [.int .i64 x] ∧ okI x := by
  obtain ⟨b, hb, _, hw⟩ := DataW.trod_int Try.underlying3 h
  exact ⟨b, hb, okI_wf hw⟩
theorem read_ints {fuel : Nat} {cs : List Value} {y : DataW H × List MemPlace} (h : DataW.trod enc Try.prog w 0 (fun _ => true) true fuel 23 cs = some y) (hb : bulk y.1 ≤ 1048576) :
    ∃ v xs, cs = [v] ∧ IntsIn w.heap.size w v xs ∧ xs.length + 1 ≤ bulk y.1 ∧ okT xs := by
  obtain ⟨v, xs, h1, h2, h3, _⟩ := read_slice (E := fun w b o t => IntE w b o t ∧ okI t) (size := fun _ => 0) Try.underlying23 cells_int (by omega) h hb (fun b off n cs' y' _ hc h' _ => by
    obtain ⟨x, rfl, hx⟩ := read_int h'
    exact ⟨x, ⟨hc 0 _ rfl, hx⟩, by omega⟩)
  refine ⟨v, xs, h1, h2.mono fun _ _ _ _ h => h.1, h3, fun x hx => ?_⟩
  obtain ⟨a, cap, _, _, _, hel⟩ := h2
  obtain ⟨k, hk⟩ := List.mem_iff_getElem?.1 hx
  obtain ⟨b, off, _, _, he⟩ := hel k x hk
  exact he.2
theorem read_lists {fuel : Nat} {cs : List Value} {y : DataW H × List MemPlace} (h : DataW.trod enc Try.prog w 0 (fun _ => true) true fuel 22 cs = some y) (hb : bulk y.1 ≤ 1048576) :
    ∃ v ts, cs = [v] ∧ ListsIn w.heap.size w v ts ∧ (ts.map fun t => t.length + 1).sum + 1 ≤ bulk y.1 ∧ ts.length + 1 ≤ bulk y.1 ∧ ∀ t, t ∈ ts → okT t := by
  obtain ⟨v, xs, h1, h2, h3, h4⟩ := read_slice (E := fun W b o t => ListE w.heap.size W b o t ∧ okT t) (size := fun t : List Int => t.length + 1) Try.underlying22 cells_ints (by omega) h hb (fun b off n cs' y' _ hc h' hb' => by
    obtain ⟨v, t, rfl, ht, hl, hok⟩ := read_ints h' hb'
    exact ⟨t, ⟨⟨v, hc 0 _ rfl, ht⟩, hok⟩, hl⟩)
  refine ⟨v, xs, h1, h2.mono fun _ _ _ _ h => h.1, h4, h3, fun x hx => ?_⟩
  obtain ⟨a, cap, _, _, _, hel⟩ := h2
  obtain ⟨k, hk⟩ := List.mem_iff_getElem?.1 hx
  obtain ⟨b, off, _, _, he⟩ := hel k x hk
  exact he.2
end
end Go.Proofs

/- What the reading of the steps of a relation's law says of memory. -/
namespace Go.Proofs
open Go.RowKit Go.Ink Go.ChangeShapes Go.WideShapes
set_option linter.unusedVariables false
set_option linter.unusedSimpArgs false

section
variable {H : Type} {enc : TypeId × Value → H} {w : World}

theorem cells_step : Try.prog.cellsOf 61 = 8 := by kernel_rfl
theorem trod_struct8 {P : Program} {base : Nat} {spare : Nat → Bool} {held : Bool} {t : TypeId} {f0 f1 f2 f3 f4 f5 f6 f7 : Field} {fuel : Nat} {cs : List Value} {x : DataW H × List MemPlace} (ht : P.underlying t = some (.struct #[f0, f1, f2, f3, f4, f5, f6, f7])) (h : DataW.trod enc P w base spare held fuel t cs = some x) :
    ∃ y0 y1 y2 y3 y4 y5 y6 y7 n, x.1 = .agg [y0.1, y1.1, y2.1, y3.1, y4.1, y5.1, y6.1, y7.1] ∧ cs.length = P.cellsOf t ∧
      DataW.trod enc P w base spare held n f0.type ((cs.drop f0.offset).take (P.cellsOf f0.type)) = some y0 ∧ DataW.trod enc P w base spare held n f1.type ((cs.drop f1.offset).take (P.cellsOf f1.type)) = some y1 ∧
      DataW.trod enc P w base spare held n f2.type ((cs.drop f2.offset).take (P.cellsOf f2.type)) = some y2 ∧ DataW.trod enc P w base spare held n f3.type ((cs.drop f3.offset).take (P.cellsOf f3.type)) = some y3 ∧
      DataW.trod enc P w base spare held n f4.type ((cs.drop f4.offset).take (P.cellsOf f4.type)) = some y4 ∧ DataW.trod enc P w base spare held n f5.type ((cs.drop f5.offset).take (P.cellsOf f5.type)) = some y5 ∧
      DataW.trod enc P w base spare held n f6.type ((cs.drop f6.offset).take (P.cellsOf f6.type)) = some y6 ∧ DataW.trod enc P w base spare held n f7.type ((cs.drop f7.offset).take (P.cellsOf f7.type)) = some y7 := by
  obtain ⟨xs, n, _, rfl, hl, hlen, hf⟩ := DataW.trod_struct ht h
  match xs, hlen with
  | [y0, y1, y2, y3, y4, y5, y6, y7], _ => exact ⟨y0, y1, y2, y3, y4, y5, y6, y7, n, by simp, hl, by simpa using hf 0 f0 rfl, by simpa using hf 1 f1 rfl, by simpa using hf 2 f2 rfl, by simpa using hf 3 f3 rfl, by simpa using hf 4 f4 rfl, by simpa using hf 5 f5 rfl, by simpa using hf 6 f6 rfl, by simpa using hf 7 f7 rfl⟩

theorem read_step {fuel : Nat} {cs : List Value} {y : DataW H × List MemPlace} (h : DataW.trod enc Try.prog w 0 (fun _ => true) true fuel 61 cs = some y) (hb : bulk y.1 ≤ 1048576) :
    ∃ (s : StepD) (vt vc vk : Value), cs = [.int .i64 s.kd, .int .i64 s.wh, .int .i64 s.fr, .int .i64 s.to, .int .i64 s.lv, vt, vc, vk] ∧ StepIn w.heap.size w s vt vc vk := by
  obtain ⟨y0, y1, y2, y3, y4, y5, y6, y7, n, hy, hl, h0, h1, h2, h3, h4, h5, h6, h7⟩ := trod_struct8 Try.underlying61 h
  rw [hy, bulk_agg] at hb
  simp only [List.map_cons, List.map_nil, List.sum_cons, List.sum_nil] at hb
  rw [cells_step] at hl
  match cs, hl with
  | [c0, c1, c2, c3, c4, c5, c6, c7], _ =>
    simp only [cells_int, cells_ints, List.drop_zero, List.drop_succ_cons, List.take_succ_cons, List.take_zero] at h0 h1 h2 h3 h4 h5 h6 h7
    obtain ⟨x0, e0, _⟩ := read_int h0
    obtain ⟨x1, e1, _⟩ := read_int h1
    obtain ⟨x2, e2, _⟩ := read_int h2
    obtain ⟨x3, e3, _⟩ := read_int h3
    obtain ⟨x4, e4, _⟩ := read_int h4
    obtain ⟨v5, x5, e5, i5, _, o5⟩ := read_ints h5 (by omega)
    obtain ⟨v6, x6, e6, i6, _, o6⟩ := read_ints h6 (by omega)
    obtain ⟨v7, x7, e7, i7, _, o7⟩ := read_ints h7 (by omega)
    cases e0
    cases e1
    cases e2
    cases e3
    cases e4
    cases e5
    cases e6
    cases e7
    exact ⟨⟨x0, x1, x2, x3, x4, x5, x6, x7⟩, _, _, _, rfl, i5, i6, i7, o5, o7⟩
theorem read_steps {fuel : Nat} {cs : List Value} {y : DataW H × List MemPlace} (h : DataW.trod enc Try.prog w 0 (fun _ => true) true fuel 55 cs = some y) (hb : bulk y.1 ≤ 1048576) :
    ∃ v ss, cs = [v] ∧ StepsIn w.heap.size w v ss ∧ ss.length + 1 ≤ bulk y.1 := by
  obtain ⟨v, xs, h1, h2, h3, h4⟩ := read_slice (E := StepE w.heap.size) (size := fun _ => 0) Try.underlying55 cells_step (by omega) h hb (fun b off n cs' y' _ hc h' hb' => by
    obtain ⟨s, vt, vc, vk, rfl, hi⟩ := read_step h' hb'
    exact ⟨s, ⟨vt, vc, vk, fun j v hj => hc j v hj, hi⟩, by omega⟩)
  exact ⟨v, xs, h1, h2, h3⟩
end
end Go.Proofs

/- The end of a law whose arguments stay. -/
namespace Go.Proofs
open Go.RowKit Go.ChangeShapes Go.WideShapes
set_option linter.unusedVariables false
set_option linter.unusedSimpArgs false

/-- Arguments in old memory read as they did. -/
theorem all_stay {H : Type} {enc : TypeId × Value → H} {P : Program} (hl : laidOutB P = true) {W W' : World} (hb : Below W.heap.size W W') {sp : Nat → Bool} :
    ∀ {ts : List TypeId} {vs : List Value} {ds : List (DataW H)} {p : List MemPlace}, (∀ t, t ∈ ts → P.readableRec t = true ∧ t < P.types.size) →
      DataW.TrodAll enc P W 0 (fun _ => true) true ts vs ds p → (∀ x, x ∈ p → x.block < W.heap.size) → (∀ x, x ∈ p → sp x.block = true) → DataW.TrodAll enc P W' 0 sp true ts vs ds p
  | [], _, _, _, _, h, _, _ => by
    obtain ⟨rfl, rfl, rfl⟩ := trodAll_nil h
    exact trodAll_mk0
  | t :: ts, _, _, _, hr, h, h1, h2 => by
    obtain ⟨v, vs1, d, ds1, a, b, rfl, rfl, rfl, k1, k2⟩ := trodAll_cons h
    exact trodAll_cons_mk (WideElems.Trod_stays hl (hr t List.mem_cons_self).1 (hr t List.mem_cons_self).2 k1 (fun x hx => hb.same (h1 x (List.mem_append_left _ hx))) (fun x hx => h2 x (List.mem_append_left _ hx)))
      (all_stay hl hb (fun u hu => hr u (List.mem_cons_of_mem _ hu)) k2 (fun x hx => h1 x (List.mem_append_right _ hx)) (fun x hx => h2 x (List.mem_append_right _ hx)))

/-- The end of a law whose arguments stay: what it answers, and that old memory is as it was. -/
theorem post_below {H : Type} {enc : TypeId × Value → H} {P : Program} {f : Func} {s : ChangeSpec} {apart fresh handsOn : Bool} {W W' : World} {args : Array Value} {v : Value} {ds gs : List (DataW H)} {before : List MemPlace}
    (hW : DataW.Whole enc P f.params.toList s.vars apart W args.toList ds gs before) (hv : s.vars = []) (hv2 : (s.fn H (ds ++ gs)).vars = [])
    (hres : ∀ b, DataW.TrodAll enc P W' b (fun _ => false) handsOn f.resultTypes.toList (v.resultList f.resultTypes.size) (s.fn H (ds ++ gs)).results [])
    (hargs : (s.fn H (ds ++ gs)).args = ds) (hl : laidOutB P = true) (hr : ∀ t, t ∈ f.params.toList → P.readableRec t = true ∧ t < P.types.size) (hb : Below W.heap.size W W') :
    s.post enc P f apart fresh handsOn false W args v W' := by
  have hlt := hW.lt
  have hW' := hW
  obtain ⟨p, q, hA, hV, rfl, _, _⟩ := hW
  rw [hv] at hV
  obtain ⟨rfl, rfl⟩ := trodVars_none hV
  refine ⟨ds, [], _, [], p, [], hW', hres _, ?_, ?_, hb.frame _, fun h => by cases h⟩
  · rw [hargs]
    exact all_stay hl hb hr hA (fun x hx => hlt x (by simpa using hx)) (fun x hx => by simpa using hlt x (by simpa using hx))
  · rw [hv, hv2]; rfl
end Go.Proofs
