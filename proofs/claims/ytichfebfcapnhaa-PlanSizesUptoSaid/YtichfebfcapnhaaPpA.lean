/- Layer 16 (plan): sizes of relations: what is in memory, and what they are in plain Lean. -/
import Derived.Test.YtichfebfcapnhaaProg
import Derived.Test.YtichfebfcapnhaaPoC
import Derived.Test.YtichfebfcapnhaaPnI
namespace Go.Proofs
open Go Go.RowKit Go.Ink
set_option linter.unusedVariables false
set_option linter.unusedSimpArgs false
attribute [local go_sem] Oper.semAt_some

structure RelaD where
  pred : ByteArray
  arity : Int
  tuples : List (List ByteArray)
  deriving DecidableEq, Inhabited
def TupE (n : Nat) (w : World) (b o : Nat) (t : List ByteArray) : Prop := ∃ sv, w.cell? ⟨b, o, none⟩ = some sv ∧ StrsIn n w sv t
abbrev TupsIn (n : Nat) (w : World) (v : Value) (ts : List (List ByteArray)) : Prop := SliceIn n w 1 (TupE n) v ts
theorem TupsIn.keep {n : Nat} {w w' : World} {v : Value} {ts : List (List ByteArray)} (h : TupsIn n w v ts) (hK : Keep (fun k => k < n) w w') : TupsIn n w' v ts :=
  h.mono fun b o t hb ⟨sv, h1, h2⟩ => ⟨sv, hK.cell h1 hb, strs_keep h2 hK⟩
theorem TupsIn.wider {n n' : Nat} {w : World} {v : Value} {ts : List (List ByteArray)} (h : TupsIn n w v ts) (hn : n ≤ n') : TupsIn n' w v ts :=
  SliceIn.wider h hn fun _ _ _ _ ⟨sv, h1, h2⟩ => ⟨sv, h1, strs_wider h2 hn⟩
def RelaE (n : Nat) (w : World) (b o : Nat) (r : RelaD) : Prop := ∃ tv, CellsE w b o [.string r.pred, .int .i64 r.arity, tv] ∧ TupsIn n w tv r.tuples
abbrev RelasIn (n : Nat) (w : World) (v : Value) (rs : List RelaD) : Prop := SliceIn n w 3 (RelaE n) v rs
theorem RelasIn.keep {n : Nat} {w w' : World} {v : Value} {rs : List RelaD} (h : RelasIn n w v rs) (hK : Keep (fun k => k < n) w w') : RelasIn n w' v rs :=
  h.mono fun b o r hb ⟨tv, h1, h2⟩ => ⟨tv, fun j v hj => hK.cell (h1 j v hj) hb, TupsIn.keep h2 hK⟩
theorem RelasIn.wider {n n' : Nat} {w : World} {v : Value} {rs : List RelaD} (h : RelasIn n w v rs) (hn : n ≤ n') : RelasIn n' w v rs :=
  SliceIn.wider h hn fun _ _ _ _ ⟨tv, h1, h2⟩ => ⟨tv, h1, TupsIn.wider h2 hn⟩

/-- a column's strings, from above -/
def colL (ts : List (List ByteArray)) (c : Nat) : List ByteArray := ts.filterMap fun t => t[c]?
theorem colL_snoc {ts : List (List ByteArray)} {k : Nat} {t : List ByteArray} (h : ts[k]? = some t) (c : Nat) : colL (ts.take (k + 1)) c = colL (ts.take k) c ++ (t[c]?).toList := by
  unfold colL
  rw [List.take_add_one, h, List.filterMap_append]
  simp only [Option.toList_some, List.filterMap_cons, List.filterMap_nil]
  cases t[c]? <;> rfl
theorem colL_len (ts : List (List ByteArray)) (c : Nat) : (colL ts c).length ≤ ts.length := List.length_filterMap_le _ _
def countC (ts : List (List ByteArray)) (c : Nat) : Nat := (onceL (colL ts c)).length
theorem countC_le (ts : List (List ByteArray)) (c : Nat) : countC ts c ≤ ts.length := Nat.le_trans (onceL_len _) (colL_len _ _)
def wideD (ts : List (List ByteArray)) : Nat := (ts.getD 0 []).length
def distL (ts : List (List ByteArray)) (c : Nat) : List Int := (List.range c).map fun i => (countC ts i : Int)
theorem distL_succ (ts : List (List ByteArray)) (c : Nat) : distL ts (c + 1) = distL ts c ++ [(countC ts c : Int)] := by
  unfold distL; rw [List.range_succ, List.map_append]; rfl
theorem distL_len (ts : List (List ByteArray)) (c : Nat) : (distL ts c).length = c := by unfold distL; rw [List.length_map, List.length_range]
def sizeD (r : RelaD) : SizeD := ⟨r.pred, r.tuples.length, distL r.tuples (wideD r.tuples)⟩
theorem sizeD_nil {r : RelaD} (h : r.tuples.length = 0) : sizeD r = ⟨r.pred, r.tuples.length, []⟩ := by
  unfold sizeD wideD
  rw [List.eq_nil_of_length_eq_zero h]; rfl

/-- sizes of one's own -/
def sizeC (q : SizeD × Value) : List Value := [.string q.1.pred, .int .i64 q.1.rows, q.2]
theorem sizeC_len (qs : List (SizeD × Value)) : (qs.flatMap sizeC).length = qs.length * 3 := flatMap_len _ 3 (fun _ => rfl) qs
def SizesOwn (base : Nat) (w : World) (v : Value) (ss : List SizeD) : Prop :=
  ∃ qs : List (SizeD × Value), qs.map (·.1) = ss ∧ w.ownsRow base 63 3 v ss.length (qs.flatMap sizeC) ∧ ∀ q, q ∈ qs → w.ownsRow base 3 1 q.2 q.1.dist.length (q.1.dist.map (.int .i64))
theorem SizesOwn.sizes {base : Nat} {w : World} {v : Value} {ss : List SizeD} (h : SizesOwn base w v ss) (hl : ss.length ≤ 1073741824) (hd : ∀ s, s ∈ ss → s.dist.length ≤ 1073741824) : SizesIn w.heap.size w v ss := by
  obtain ⟨qs, rfl, h2, h3⟩ := h
  rw [List.length_map] at hl h2
  exact own_sizes (n0 := w.heap.size) h2 hl (Nat.le_refl _) (fun q hq => own_ints (h3 q hq) (hd _ (List.mem_map.2 ⟨q, hq, rfl⟩)))
theorem SizesOwn.keep {base : Nat} {w w' : World} {v : Value} {ss : List SizeD} {C : Nat → Prop} (h : SizesOwn base w v ss) (hK : Keep C w w') (hC : ∀ b, base ≤ b → b < w.heap.size → C b) : SizesOwn base w' v ss := by
  obtain ⟨qs, h1, h2, h3⟩ := h
  exact ⟨qs, h1, own_kept h2 hK (fun b hb => by have := World.ownsRow.lt h2 b hb; exact hC b this.1 this.2), fun q hq => own_kept (h3 q hq) hK (fun b hb => by have := World.ownsRow.lt (h3 q hq) b hb; exact hC b this.1 this.2)⟩
theorem SizesOwn.mono {base base' : Nat} {w : World} {v : Value} {ss : List SizeD} (h : SizesOwn base w v ss) (hb : base' ≤ base) : SizesOwn base' w v ss := by
  obtain ⟨qs, h1, h2, h3⟩ := h
  exact ⟨qs, h1, h2.mono hb, fun q hq => (h3 q hq).mono hb⟩

/-- empty sizes -/
def zeros : Nat → List Value
  | 0 => []
  | n + 1 => [.string ⟨#[]⟩, .int .i64 0, .slice none 0 0] ++ zeros n
theorem zeros_len (n : Nat) : (zeros n).length = n * 3 := by
  induction n with
  | zero => rfl
  | succ n ih => rw [zeros, List.length_append, ih]; simp; omega
theorem zeros_made (n : Nat) : madeCells #[.string ⟨#[]⟩, .int .i64 0, .slice none 0 0] (n * 3) = (zeros n).toArray := by
  apply Array.ext
  · simp [madeCells, zeros_len]
  · intro i h1 h2
    have hz : ∀ (n i : Nat) (h : i < (zeros n).length), (zeros n)[i] = ([.string ⟨#[]⟩, .int .i64 0, .slice none 0 0] : List Value)[i % 3]'(Nat.mod_lt _ (by decide)) := by
      intro n
      induction n with
      | zero => intro i h; simp [zeros] at h
      | succ n ih =>
        intro i h
        simp only [zeros]
        by_cases hi : i < 3
        · rw [List.getElem_append_left (by simpa using hi)]
          simp only [Nat.mod_eq_of_lt hi]
        · rw [List.getElem_append_right (by simpa using hi)]
          simp only [List.length_cons, List.length_nil]
          rw [ih]
          congr 1
          omega
    simp only [List.getElem_toArray]
    rw [hz]
    have hm : i % 3 < 3 := Nat.mod_lt _ (by decide)
    have he : ∀ (l : List Value) (k : Nat) (h : k < l.length), l[k]?.getD default = l[k] := fun l k h => by rw [List.getElem?_eq_getElem h]; rfl
    simp [madeCells]
    exact he _ _ hm
theorem info_size : (Try.prog.info? 63).map (fun i => (i.zero, i.size, i.bytes)) = some (some (.agg #[.string ⟨#[]⟩, .int .i64 0, .slice none 0 0]), 3, 48) := by kernel_rfl
theorem run_makeSizes (n : Nat) (h : n ≤ 1073741824) (u : World) : (Instr.makeSlice 29 (.int .i64 (n : Int)) (.int .i64 (n : Int))).run Try.prog u =
    .ok (.slice (some ⟨u.heap.size, 0, none⟩) n n) (u.alloc (.cells (zeros n).toArray 63)) := by
  obtain ⟨i0, hi, hz0, hz1, hz2⟩ := info_parts info_size
  have h := run_make (P := Try.prog) u 29 63 i0 (.agg #[.string ⟨#[]⟩, .int .i64 0, .slice none 0 0]) Try.underlying29 hi hz0 .i64 .i64 (n : Int) (n : Int) (by omega) (Int.le_refl _) (by rw [hz2]; omega) (by omega)
  rw [← zeros_made]
  simpa [hz1, Value.cells] using h
theorem run_makeSeen (w : World) : (Instr.makeMap 85 none).run Try.prog w = .ok (.map (some w.heap.size)) (w.alloc (.map #[] 0)) := by
  simp [Instr.makeMap, Sem.run_bind, run_underlying Try.underlying85, Result.andThen, run_newObj_alloc]
/-- three cells of empty sizes written over -/
theorem zeros_set (A : List Value) (m : Nat) (x y z : Value) : (((A ++ zeros (m + 1)).set A.length x).set (A.length + 1) y).set (A.length + 2) z = A ++ [x, y, z] ++ zeros m := by
  show (((A ++ (([.string ⟨#[]⟩, .int .i64 0, .slice none 0 0] : List Value) ++ zeros m)).set A.length x).set (A.length + 1) y).set (A.length + 2) z = _
  simp [List.set_append, List.append_assoc]
theorem mid_set (A C : List Value) (x y z z' : Value) : (A ++ [x, y, z] ++ C).set (A.length + 2) z' = A ++ [x, y, z'] ++ C := by
  simp [List.set_append, List.append_assoc]
theorem mid_at (A C : List Value) (x y z : Value) : (A ++ [x, y, z] ++ C)[A.length + 2]? = some z := by
  rw [List.append_assoc, List.getElem?_append_right (by omega)]
  simp
theorem zeros_at (A : List Value) (m j : Nat) (hj : j < 3) : (A ++ zeros (m + 1))[A.length + j]? = ([.string ⟨#[]⟩, .int .i64 0, .slice none 0 0] : List Value)[j]? := by
  rw [List.getElem?_append_right (by omega), show A.length + j - A.length = j by omega]
  show (([.string ⟨#[]⟩, .int .i64 0, .slice none 0 0] : List Value) ++ zeros m)[j]? = _
  rw [List.getElem?_append_left (by simpa using hj)]
end Go.Proofs
