/- Layer 4, the program's relation in memory of its own; New. -/
import Derived.Test.YtbaemcmagkmjiaaProg
import Derived.Test.YtbaemcmagkmjiaaRelL
import Derived.Test.YtbaemcmagkmjiaaRelC
namespace Go.Proofs
open Go.RowKit Go.Ink
set_option linter.unusedVariables false
set_option linter.unusedSimpArgs false
attribute [local go_sem] Oper.semAt_some

/-- the tuples' places as the map has them -/
def placesM (ts : List (List Int)) : List (List Int × Nat) := ts.zipIdx.map fun p => (padK p.1, p.2)
abbrev ptrV (b : Nat) : Value := .pointer (some ⟨b, 0, none⟩)
abbrev PlaceMap (w : World) (b : Nat) (m : List (List Int × Nat)) : Prop := MapIn Try.prog 81 keyV natV w b m
abbrev LookMap (w : World) (b : Nat) (m : List (List Bool × Nat)) : Prop := MapIn Try.prog 85 colV ptrV w b m

/-- the relation; of the look of columns c the tuples `tsl c` are known -/
structure RelG (tag : Tags) (w : World) (B n : Nat) (ts : List (List Int)) (tsl : List Bool → List (List Int)) (vD : Value) (P K : Nat) (lm : List (List Bool × Nat)) : Prop where
  tagB : tag B = some .box
  box : w.heap[B]? = some (.cells (relCells n vD ts.length P K).toArray 79 (0, 0))
  n16 : n ≤ 16
  nodup : ts.Nodup
  right : ∀ t ∈ ts, rightD n t = true
  ok : ∀ t ∈ ts, okT t
  own : w.ownsRow 0 3 1 vD ts.flatten.length (ts.flatten.map (.int .i64))
  tagD : ∀ b, vD.ownBlock = some b → tag b = some .data
  tagP : tag P = some .pmap
  pmap : PlaceMap w P (placesM ts)
  tagK : tag K = some .kmap
  kmap : LookMap w K lm
  looks : ∀ c L, (c, L) ∈ lm → ∃ l vl M m, LookAt tag w n (tsl c) c L l vl M m
  ents : ∀ b c, lookT (tag b) = some c → ∃ L, (c, L) ∈ lm
  lt : ∀ b T, tag b = some T → b < w.heap.size

abbrev RelOwn (tag : Tags) (w : World) (B n : Nat) (ts : List (List Int)) (vD : Value) (P K : Nat) (lm : List (List Bool × Nat)) : Prop := RelG tag w B n ts (fun _ => ts) vD P K lm

theorem RelG.keep {tag : Tags} {w w' : World} {B n : Nat} {ts : List (List Int)} {tsl : List Bool → List (List Int)} {vD : Value} {P K : Nat} {lm : List (List Bool × Nat)} {C : Nat → Prop} (h : RelG tag w B n ts tsl vD P K lm) (hK : Keep C w w') (hC : ∀ b T, tag b = some T → b < w.heap.size → C b) : RelG tag w' B n ts tsl vD P K lm := by
  have hC2 : ∀ b T, tag b = some T → C b := fun b T hb => hC b T hb (h.lt b T hb)
  refine ⟨h.tagB, hK.heap h.box (hC2 _ _ h.tagB), h.n16, h.nodup, h.right, h.ok, own_kept h.own hK (fun b hb => hC2 _ _ (h.tagD b hb)), h.tagD, h.tagP, h.pmap.keep hK (hC2 _ _ h.tagP), h.tagK, h.kmap.keep hK (hC2 _ _ h.tagK), fun c L hcl => ?_, h.ents, fun b T hb => Nat.lt_of_lt_of_le (h.lt b T hb) hK.size⟩
  obtain ⟨l, vl, M, m, hl⟩ := h.looks c L hcl
  refine ⟨l, vl, M, m, hl.keep hK (fun b hb => ?_) (fun _ _ => rfl) (fun _ _ => rfl)⟩
  cases hT : tag b with
  | none => rw [hT] at hb; cases hb
  | some T => exact hC2 b T hT

theorem RelG.len {tag : Tags} {w : World} {B n : Nat} {ts : List (List Int)} {tsl : List Bool → List (List Int)} {vD : Value} {P K : Nat} {lm : List (List Bool × Nat)} (h : RelG tag w B n ts tsl vD P K lm) : ∀ t ∈ ts, t.length = n := fun t ht => by
  have := h.right t ht
  simp only [rightD, Bool.and_eq_true, decide_eq_true_eq] at this
  exact this.1

set_option maxRecDepth 100000 in
theorem relNew_any (n : Nat) (hn : n ≤ 16) (w : World) : Calls Try.prog 16 #[.int .i64 n] w fun e w' => e = .returned (.tuple #[.pointer (some ⟨w.heap.size + 2, 0, none⟩), .int .i64 0]) ∧ Keep (fun _ => True) w w' ∧
    ∃ tag P K, RelOwn tag w' (w.heap.size + 2) n [] (.slice none 0 0) P K [] ∧ ∀ b T, tag b = some T → w.heap.size ≤ b := by
  have h1 : (0 : Int) ≤ n := by omega
  have h2 : (n : Int) ≤ 16 := by omega
  have h3 : ¬ ((n : Int) < 0) := by omega
  have h4 : ¬ ((16 : Int) < n) := by omega
  have hmm := @run_makeMap Try.prog
  go_enter Try.func16, Try.ntmps16
  go_wp2
  go_ret2
  refine ⟨rfl, ((Keep.alloc _ _ _).trans (Keep.alloc _ _ _)).trans (Keep.alloc _ _ _), fun b => if b = w.heap.size then some .pmap else if b = w.heap.size + 1 then some .kmap else if b = w.heap.size + 2 then some .box else none, ⟨w.heap.size, w.heap.size + 1, ?_⟩, ?_⟩
  · refine ⟨by simp, ?_, hn, List.nodup_nil, fun t ht => (by cases ht), fun t ht => (by cases ht), World.ownsRow_nil _ _ _ _, fun b hb => (by simp [Value.ownBlock] at hb), by simp, ?_, by simp, ?_, fun c L h => (by cases h), fun b c hb => ?_, fun b T hb => ?_⟩
    · simp only [alloc_get, World.size_alloc]
      simp [relCells]
    · exact ((mapIn_new w).keep (Keep.alloc (fun _ => True) _ _) trivial).keep (Keep.alloc (fun _ => True) _ _) trivial
    · have := (mapIn_new (P := Try.prog) (K := 85) (ek := colV) (ev := ptrV) (w.alloc (.map #[] 0))).keep (Keep.alloc (fun _ => True) _ (.cells (relCells n (.slice none 0 0) 0 w.heap.size (w.heap.size + 1)).toArray 79)) trivial
      simpa [relCells] using this
    · split at hb
      · cases hb
      · split at hb
        · cases hb
        · split at hb <;> cases hb
    · simp only [World.size_alloc]
      split at hb
      · omega
      · split at hb
        · omega
        · split at hb
          · omega
          · cases hb
  · intro b T hb
    replace hb : (if b = w.heap.size then some Tag.pmap else if b = w.heap.size + 1 then some Tag.kmap else if b = w.heap.size + 2 then some Tag.box else none) = some T := hb
    split at hb
    · omega
    · split at hb
      · omega
      · split at hb
        · omega
        · cases hb
set_option maxRecDepth 100000 in
theorem relNew_bad (n : Int) (hn : n < 0 ∨ 16 < n) (w : World) : Calls Try.prog 16 #[.int .i64 n] w fun e w' => e = .returned (.tuple #[.pointer none, .int .i64 2]) ∧ w' = w := by
  go_enter Try.func16, Try.ntmps16
  rcases hn with h | h
  · go_wp2
    go_ret2
    exact ⟨rfl, rfl⟩
  · have h3 : ¬ (n < 0) := by omega
    go_wp2
    go_ret2
    exact ⟨rfl, rfl⟩

/-- where a tuple's numbers lie in the row of all -/
theorem flat_at {n : Nat} : ∀ {ts : List (List Int)} (h : ∀ t ∈ ts, t.length = n) {i : Nat} {t : List Int} (hi : ts[i]? = some t) {k : Nat} {x : Int} (hk : t[k]? = some x), ts.flatten[i * n + k]? = some x
  | [], _, i, t, hi, _, _, _ => by simp at hi
  | s :: ts, h, 0, t, hi, k, x, hk => by
    simp at hi
    subst hi
    rw [List.flatten_cons, Nat.zero_mul, Nat.zero_add, List.getElem?_append_left (List.getElem?_eq_some_iff.1 hk).1]
    exact hk
  | s :: ts, h, i + 1, t, hi, k, x, hk => by
    have hs : s.length = n := h s (by simp)
    rw [List.flatten_cons, List.getElem?_append_right (by rw [hs, Nat.succ_mul]; omega), hs]
    have : (i + 1) * n + k - n = i * n + k := by rw [Nat.succ_mul]; omega
    rw [this]
    exact flat_at (fun t ht => h t (by simp [ht])) (by simpa using hi) hk
theorem flat_len {n : Nat} : ∀ {ts : List (List Int)} (h : ∀ t ∈ ts, t.length = n), ts.flatten.length = ts.length * n
  | [], _ => by simp
  | s :: ts, h => by
    rw [List.flatten_cons, List.length_append, flat_len (fun t ht => h t (by simp [ht])), h s (by simp), List.length_cons, Nat.succ_mul]
    omega

set_option maxRecDepth 100000 in
theorem tuple_any {tag : Tags} {w : World} {B n : Nat} {ts : List (List Int)} {vD : Value} {P K : Nat} {lm : List (List Bool × Nat)} (h : RelOwn tag w B n ts vD P K lm) (hl : ts.length ≤ 536870912) (i : Nat) (t : List Int) (hi : ts[i]? = some t) :
    Calls Try.prog 34 #[.pointer (some ⟨B, 0, none⟩), .int .i64 (i : Int)] w fun e w' => ∃ v, e = .returned v ∧ Keep (fun _ => True) w w' ∧ w'.heap.size = w.heap.size ∧ IntsIn w.heap.size w v t ∧ t.length = n := by
  have hlen : t.length = n := h.len t (List.mem_of_getElem? hi)
  have hil := (List.getElem?_eq_some_iff.1 hi).1
  have hn := h.n16
  have hB := heap_lt h.box
  have hfl := flat_len h.len
  have hmul : (i + 1) * n ≤ ts.length * n := Nat.mul_le_mul_right n hil
  have hmul2 : ts.length * n ≤ 536870912 * 16 := Nat.mul_le_mul hl hn
  have hsm : (i + 1) * n = i * n + n := Nat.succ_mul i n
  have c0 := cells_of_block h.box 0 _ rfl
  have c1 := cells_of_block h.box 1 _ rfl
  simp only [Nat.zero_add] at c0 c1
  obtain ⟨ad, lenD, capD, rfl, hlc, hcm⟩ : ∃ ad lenD capD, vD = .slice ad lenD capD ∧ lenD = ts.flatten.length ∧ lenD ≤ capD := by
    rcases h.own.2 with ⟨e1, e2⟩ | ⟨g, cap, cur, e1, e2, e3, e4, e5, _⟩
    · exact ⟨none, 0, 0, e1, e2.symm, Nat.le_refl _⟩
    · exact ⟨_, _, _, e1, rfl, e4⟩
  obtain ⟨lo, hlo⟩ : ∃ lo, i * n = lo := ⟨_, rfl⟩
  have b0 : (0 : Int) ≤ lo := by omega
  have b1 : (lo : Int) ≤ lo + n := by omega
  have b2 : (lo : Int) + n ≤ capD := by omega
  have b3 : (lo : Int) + n ≤ 8589934592 := by omega
  have b4 : (lo : Int) ≤ 8589934592 := by omega
  have b5 : (i : Int) * (n : Int) = lo := by rw [← hlo]; simp
  have b6 : ((i : Int) + 1) * (n : Int) = lo + n := by rw [Int.add_mul, b5]; omega
  have b7 : (i : Int) + 1 ≤ 536870912 := by omega
  have b8 : (0 : Int) ≤ i := by omega
  have b9 : (lo : Int) + n - lo = n := by omega
  have hans : IntsIn w.heap.size w (.slice (if lo + n = lo then ad else ad.map (·.add (lo * 1))) n n) t := by
    refine ⟨_, n, by rw [hlen], by omega, ⟨by omega, by simp only [maxLen]; omega⟩, fun k x hk => ?_⟩
    have hkl := (List.getElem?_eq_some_iff.1 hk).1
    rw [if_neg (by omega)]
    have hf := flat_at h.len hi hk
    have hown := h.own
    rw [← hlc] at hown
    rcases hown.2 with ⟨e1, e2⟩ | ⟨g, cap, cur, e1, e2, e3, e4, e5, _⟩
    · have := (List.getElem?_eq_some_iff.1 hf).1
      omega
    · injection e1 with q1 q2 q3
      subst q1
      have := own_elem hown (lo + k) (.int .i64 x) (by rw [← hlo, List.getElem?_map, hf]; rfl)
      refine ⟨g, lo, by simp [Addr.add]; exact fun e => e.symm, heap_lt e3, ?_⟩
      simpa [IntE] using this
  have hans1 : n = 0 → IntsIn w.heap.size w (.slice ad 0 0) t := fun h0 => by subst h0; simpa using hans
  have hans2 : ¬ n = 0 → IntsIn w.heap.size w (.slice (ad.map (·.add lo)) n n) t := fun h0 => by
    rw [if_neg (by omega), Nat.mul_one] at hans
    exact hans
  clear hi hil hfl hmul hmul2 hsm hlc hans
  have Xh := Lib.hid h
  have Xhans1 := Lib.hid hans1
  have Xhans2 := Lib.hid hans2
  have Xhlen := Lib.hid hlen
  clear h hans1 hans2 hlen
  go_enter Try.func34, Try.ntmps34
  go_wp2_with fail
  go_region
  clear b0 b1 b2 b3 b4 b5 b6 b7 b8 b9 hlo c0 c1
  go_wp2_with fail
  all_goals go_ret
  · exact ⟨_, rfl, Keep.drew _ _, rfl, Xhans1.out (by omega), Xhlen.out⟩
  · exact ⟨_, rfl, Keep.drew _ _, rfl, Xhans2.out (by omega), Xhlen.out⟩
end Go.Proofs
