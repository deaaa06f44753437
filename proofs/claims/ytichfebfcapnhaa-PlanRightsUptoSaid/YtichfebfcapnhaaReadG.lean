/- What the reading of an argument says of memory: slices, and how much they hold. -/
import Derived.Test.YtichfebfcapnhaaRows
import Derived.Test.YtichfebfcapnhaaData
import Derived.WalkKit
import Derived.ProofKit
import Derived.OpenShut
import Derived.Deep.Slices
import Derived.Deep.Strs
import Derived.Lib.SmallJoins
namespace Go.Proofs
open Go.RowKit Go.Ink Go.ChangeShapes Go.WideShapes
set_option linter.unusedVariables false
set_option linter.unusedSimpArgs false

/-- booleans that a slice holds -/
def BoolE (w : World) (b o : Nat) (s : Bool) : Prop := w.cell? ⟨b, o, none⟩ = some (.bool s)
abbrev BoolsIn (n : Nat) (w : World) (v : Value) (ss : List Bool) : Prop := SliceIn n w 1 BoolE v ss

section
variable {H : Type} {enc : TypeId × Value → H} {w : World}

def bulk (d : DataW H) : Nat := Ytichfebfcapnhaa.Rows.uptoBulk d
def bulks (l : List (DataW H)) : Nat := Ytichfebfcapnhaa.Rows.uptoBulkAll l
theorem bulk_pos (d : DataW H) : 1 ≤ bulk d := by
  cases d with
  | lit l => cases l <;> simp [bulk, Ytichfebfcapnhaa.Rows.uptoBulk]
  | nil => simp [bulk, Ytichfebfcapnhaa.Rows.uptoBulk]
  | ptr d => simp [bulk, Ytichfebfcapnhaa.Rows.uptoBulk]
  | slice elems spare => simp [bulk, Ytichfebfcapnhaa.Rows.uptoBulk]
  | agg parts => simp [bulk, Ytichfebfcapnhaa.Rows.uptoBulk]
  | iface t d => simp [bulk, Ytichfebfcapnhaa.Rows.uptoBulk]
  | map entries => simp [bulk, Ytichfebfcapnhaa.Rows.uptoBulk]
  | held h => simp [bulk, Ytichfebfcapnhaa.Rows.uptoBulk]
theorem bulks_sum (l : List (DataW H)) : bulks l = (l.map bulk).sum := by
  induction l with
  | nil => simp [bulks, Ytichfebfcapnhaa.Rows.uptoBulkAll]
  | cons x r ih =>
    simp only [List.map_cons, List.sum_cons, ← ih]
    simp [bulks, bulk, Ytichfebfcapnhaa.Rows.uptoBulkAll]
theorem bulk_agg (l : List (DataW H)) : bulk (.agg l) = (l.map bulk).sum + 1 := by
  rw [← bulks_sum]; simp [bulks, bulk, Ytichfebfcapnhaa.Rows.uptoBulk]
theorem bulk_slice (l s : List (DataW H)) : (l.map bulk).sum + 1 ≤ bulk (.slice l s) := by
  rw [← bulks_sum]
  simp only [bulks, bulk, Ytichfebfcapnhaa.Rows.uptoBulk]; omega
theorem sum_range_le {n : Nat} {f g : Nat → Nat} (h : ∀ i, i < n → f i ≤ g i) : ((List.range n).map f).sum ≤ ((List.range n).map g).sum := by
  induction n with
  | zero => simp
  | succ n ih =>
    have h1 := ih (fun i hi => h i (by omega))
    have h2 := h n (by omega)
    simp only [List.range_succ, List.map_append, List.sum_append, List.map_cons, List.map_nil, List.sum_cons, List.sum_nil]
    omega
theorem at_le_sum : ∀ {n : Nat} {g : Nat → Nat} {i : Nat}, i < n → g i ≤ ((List.range n).map g).sum := by
  intro n g
  induction n with
  | zero => intro i h; omega
  | succ n ih =>
    intro i hi
    simp only [List.range_succ, List.map_append, List.sum_append, List.map_cons, List.map_nil, List.sum_cons, List.sum_nil]
    rcases Nat.lt_succ_iff_lt_or_eq.1 hi with h | rfl
    · have := ih h; omega
    · omega
theorem add_none {a : Addr} (h : a.spot = none) (n : Nat) : a.add n = ⟨a.block, a.off + n, none⟩ := by
  obtain ⟨b, o, s⟩ := a
  simp only at h
  subst h
  unfold Addr.add
  split <;> simp_all

/-- A slice that is read, its elements by a reader of one element. -/
theorem read_slice {α : Type} [Inhabited α] {t e : TypeId} {sz fuel : Nat} {cs : List Value} {y : DataW H × List MemPlace} {E : World → Nat → Nat → α → Prop} {size : α → Nat}
    (ht : Try.prog.underlying t = some (.slice e)) (hc : Try.prog.cellsOf e = sz) (hp : 0 < sz)
    (h : DataW.trod enc Try.prog w 0 (fun _ => true) true fuel t cs = some y) (hb : bulk y.1 ≤ 1048576)
    (hel : ∀ b off n cs' y', b < w.heap.size → (∀ j v, cs'[j]? = some v → w.cell? ⟨b, off + j, none⟩ = some v) →
      DataW.trod enc Try.prog w 0 (fun _ => true) true n e cs' = some y' → bulk y'.1 ≤ 1048576 → ∃ x, E w b off x ∧ size x ≤ bulk y'.1) :
    ∃ v xs, cs = [v] ∧ SliceIn w.heap.size w sz E v xs ∧ xs.length + 1 ≤ bulk y.1 ∧ (xs.map size).sum + 1 ≤ bulk y.1 := by
  rcases Deep.open_slice ht h with ⟨rfl, rfl⟩ | ⟨a, len, cap, m, n, D, Pl, rfl, _, hl, hm, hmm, rfl, hx⟩
  · exact ⟨_, [], rfl, ⟨none, 0, rfl, by simp, by simp [maxLen], by simp⟩, by simpa using bulk_pos _, by simpa using bulk_pos _⟩
  simp only [if_true] at hmm
  simp only at hb
  have hB := bulk_slice ((List.range len).map D) ((List.range (m - len)).map fun j => D (len + j))
  rw [List.map_map] at hB
  have hD : ∀ i, i < len → bulk (D i) ≤ ((List.range len).map (bulk ∘ D)).sum := fun i hi => at_le_sum (g := bulk ∘ D) hi
  have hone : len ≤ ((List.range len).map (bulk ∘ D)).sum := by
    have := sum_range_le (n := len) (f := fun _ => 1) (g := bulk ∘ D) (fun i _ => bulk_pos _)
    have h1 : ((List.range len).map fun _ => 1).sum = len := by rw [List.map_const', List.sum_replicate_nat, List.length_range, Nat.mul_one]
    omega
  have ha : 0 < len → a.spot = none := fun h0 => by
    obtain ⟨cs', h1, _⟩ := hx 0 (by omega)
    obtain ⟨_, hl', hcell⟩ := World.cells?_some h1
    have h2 : cs'[0]? = some (cs'[0]'(by omega)) := List.getElem?_eq_getElem _
    have h3 := hcell 0 (by omega)
    rw [h2] at h3
    simp only [Nat.zero_mul, Addr.add, if_true] at h3
    unfold World.cell? at h3
    split at h3
    · split at h3
      · cases h3
      · rename_i hs
        cases hsp : a.spot with
        | none => rfl
        | some q => rw [hsp] at hs; simp at hs
    · cases h3
  have key : ∀ i, i < len → ∃ x, (E w a.block (a.off + i * sz) x ∧ a.block < w.heap.size) ∧ size x ≤ bulk (D i) := fun i hi => by
    have hsp := ha (by omega)
    obtain ⟨cs', h1, h2⟩ := hx i (by omega)
    obtain ⟨_, hl', hcell⟩ := World.cells?_some h1
    have hblk : a.block < w.heap.size := by
      have := World.cells?_block h1 (by omega)
      rwa [add_none hsp] at this
    obtain ⟨x, hE, hs⟩ := hel a.block (a.off + i * sz) n cs' _ hblk (fun j v hj => by
      have hjl := (List.getElem?_eq_some_iff.1 hj).1
      have h3 := hcell j (by omega)
      rw [Deep.add_add, add_none hsp, hj, hc, ← Nat.add_assoc] at h3
      exact h3) h2 (by have := hD i hi; simp only; omega)
    exact ⟨x, ⟨hE, hblk⟩, hs⟩
  obtain ⟨f, hf⟩ := Deep.choose_lt key
  have hsum := sum_range_le (n := len) (f := size ∘ f) (g := bulk ∘ D) (fun i hi => (hf i hi).2)
  refine ⟨_, (List.range len).map f, rfl, ⟨some a, cap, by simp, by simp; omega, ⟨by simpa using hl, hm⟩, fun k x hk => ?_⟩, by simp only [List.length_map, List.length_range]; omega, by rw [List.map_map]; simp only; omega⟩
  have hkl : k < len := by simpa using (List.getElem?_eq_some_iff.1 hk).1
  rw [List.getElem?_map, List.getElem?_range hkl] at hk
  simp only [Option.map_some, Option.some.injEq] at hk
  subst hk
  refine ⟨a.block, a.off, ?_, (hf k hkl).1.2, (hf k hkl).1.1⟩
  have hsp := ha (by omega)
  obtain ⟨b, o, s⟩ := a
  simp only at hsp
  rw [hsp]

end
end Go.Proofs
