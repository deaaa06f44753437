/- Terms, atoms, literals, rules, programs as plain data, and how they lie in memory. No program is named here. -/
import Derived.WalkKit
import Derived.Lib.Hide
import Derived.Test.YtichfebfcapnhaaIter
namespace Go.Ink
open Go.RowKit
set_option linter.unusedVariables false
set_option linter.unusedSimpArgs false

instance reflBytes : ReflBEq ByteArray := ⟨fun {a} => (MapKept.bytes_beq a a).2 rfl⟩
instance lawfulBytes : LawfulBEq ByteArray := ⟨fun {a b} h => (MapKept.bytes_beq a b).1 h⟩

structure TermD where
  var : Bool
  text : ByteArray
  deriving DecidableEq, Inhabited
structure AtomD where
  pred : ByteArray
  args : List TermD
  deriving DecidableEq, Inhabited
structure LitD where
  kind : Int
  atom : AtomD
  left : TermD
  right : TermD
  deriving DecidableEq, Inhabited
structure RuleD where
  head : AtomD
  body : List LitD
  deriving DecidableEq, Inhabited

/-- a term as a value -/
def TermD.val (t : TermD) : Value := .agg #[.bool t.var, .string t.text]

/-- A slice value whose elements satisfy E: element k of sz cells from offset off + sz * k. All blocks lie below n. -/
def SliceIn {α : Type} (n : Nat) (w : World) (sz : Nat) (E : World → Nat → Nat → α → Prop) (v : Value) (xs : List α) : Prop :=
  ∃ a cap, v = .slice a xs.length cap ∧ xs.length ≤ 1073741824 ∧ (xs.length ≤ cap ∧ cap ≤ maxLen) ∧ ∀ k x, xs[k]? = some x → ∃ b off, a = some ⟨b, off, none⟩ ∧ b < n ∧ E w b (off + k * sz) x

/-- a term in two cells -/
def TermE (w : World) (b o : Nat) (t : TermD) : Prop := w.cell? ⟨b, o, none⟩ = some (.bool t.var) ∧ w.cell? ⟨b, o + 1, none⟩ = some (.string t.text)

abbrev TermsIn (n : Nat) (w : World) (v : Value) (ts : List TermD) : Prop := SliceIn n w 2 TermE v ts

/-- the cells of a literal -/
def litCells (L : LitD) (sa : Value) : List Value := [.int .i64 L.kind, .string L.atom.pred, sa, .bool L.left.var, .string L.left.text, .bool L.right.var, .string L.right.text]

/-- cells that lie in a row -/
def CellsE (w : World) (b o : Nat) (vs : List Value) : Prop := ∀ j v, vs[j]? = some v → w.cell? ⟨b, o + j, none⟩ = some v

def LitE (n : Nat) (w : World) (b o : Nat) (L : LitD) : Prop := ∃ sa, CellsE w b o (litCells L sa) ∧ TermsIn n w sa L.atom.args

abbrev LitsIn (n : Nat) (w : World) (v : Value) (ls : List LitD) : Prop := SliceIn n w 7 (LitE n) v ls

/-- what a literal's terms are -/
def LitD.terms (L : LitD) : List TermD := if L.kind = 1 ∨ L.kind = 2 then L.atom.args else if L.kind = 3 then [L.left, L.right] else []

theorem SliceIn.mono {α : Type} {n : Nat} {w w' : World} {sz : Nat} {E E' : World → Nat → Nat → α → Prop} {v : Value} {xs : List α} (h : SliceIn n w sz E v xs)
    (hE : ∀ b o x, b < n → E w b o x → E' w' b o x) : SliceIn n w' sz E' v xs := by
  obtain ⟨a, cap, hv, hl, hc, he⟩ := h
  refine ⟨a, cap, hv, hl, hc, fun k x hx => ?_⟩
  obtain ⟨b, off, ha, hb, h⟩ := he k x hx
  exact ⟨b, off, ha, hb, hE _ _ _ hb h⟩
theorem SliceIn.wider {α : Type} {n n' : Nat} {w w' : World} {sz : Nat} {E E' : World → Nat → Nat → α → Prop} {v : Value} {xs : List α} (h : SliceIn n w sz E v xs) (hn : n ≤ n')
    (hE : ∀ b o x, b < n → E w b o x → E' w' b o x) : SliceIn n' w' sz E' v xs := by
  obtain ⟨a, cap, hv, hl, hc, he⟩ := h
  refine ⟨a, cap, hv, hl, hc, fun k x hx => ?_⟩
  obtain ⟨b, off, ha, hb, h⟩ := he k x hx
  exact ⟨b, off, ha, by omega, hE _ _ _ hb h⟩

theorem TermE.keep {n : Nat} {w w' : World} {b o : Nat} {t : TermD} (h : TermE w b o t) (hb : b < n) (hK : Keep (fun k => k < n) w w') : TermE w' b o t :=
  ⟨hK.cell h.1 hb, hK.cell h.2 hb⟩
theorem terms_keep {n : Nat} {w w' : World} {v : Value} {ts : List TermD} (h : TermsIn n w v ts) (hK : Keep (fun k => k < n) w w') : TermsIn n w' v ts :=
  h.mono fun _ _ _ hb h => h.keep hb hK
theorem terms_wider {n n' : Nat} {w : World} {v : Value} {ts : List TermD} (h : TermsIn n w v ts) (hn : n ≤ n') : TermsIn n' w v ts :=
  SliceIn.wider h hn fun _ _ _ _ h => h
theorem CellsE.keep {n : Nat} {w w' : World} {b o : Nat} {vs : List Value} (h : CellsE w b o vs) (hb : b < n) (hK : Keep (fun k => k < n) w w') : CellsE w' b o vs :=
  fun j v hj => hK.cell (h j v hj) hb
theorem LitE.keep {n : Nat} {w w' : World} {b o : Nat} {L : LitD} (h : LitE n w b o L) (hb : b < n) (hK : Keep (fun k => k < n) w w') : LitE n w' b o L := by
  obtain ⟨sa, hc, ha⟩ := h
  exact ⟨sa, hc.keep hb hK, terms_keep ha hK⟩
theorem LitE.wider {n n' : Nat} {w : World} {b o : Nat} {L : LitD} (h : LitE n w b o L) (hn : n ≤ n') : LitE n' w b o L := by
  obtain ⟨sa, hc, ha⟩ := h
  exact ⟨sa, hc, terms_wider ha hn⟩
theorem lits_keep {n : Nat} {w w' : World} {v : Value} {ls : List LitD} (h : LitsIn n w v ls) (hK : Keep (fun k => k < n) w w') : LitsIn n w' v ls :=
  h.mono fun _ _ _ hb h => h.keep hb hK
theorem lits_wider {n n' : Nat} {w : World} {v : Value} {ls : List LitD} (h : LitsIn n w v ls) (hn : n ≤ n') : LitsIn n' w v ls :=
  SliceIn.wider h hn fun _ _ _ _ h => h.wider hn

/-- a block whose cells are known whole -/
theorem cells_of_block {w : World} {B t : Nat} {vs : Array Value} {fr : Nat × Nat} (h : w.heap[B]? = some (.cells vs t fr)) : CellsE w B 0 vs.toList := by
  intro j v hj
  simp [World.cell?, h] at *
  exact hj

/-- one box -/
theorem box_cell {w : World} {B t : Nat} {v : Value} (h : w.heap[B]? = some (.cells #[v] t (0, 0))) : w.cell? ⟨B, 0, none⟩ = some v := by simp [World.cell?, h]
theorem box_free {w : World} {B t : Nat} {vs : Array Value} (h : w.heap[B]? = some (.cells vs t (0, 0))) (o : Nat) : w.frozen? ⟨B, o, none⟩ = false := by simp [World.frozen?, h]

/-- the number in the box that a value points to -/
def boxInt (w : World) : Value → Int
  | .pointer (some q) => intOf ((w.cell? q).getD undef)
  | _ => 0
theorem boxInt_eq {w : World} {q : Addr} {k : IntKind} {n : Int} (h : w.cell? q = some (.int k n)) : boxInt w (.pointer (some q)) = n := by simp [boxInt, h, intOf]
/-- a block just laid -/
theorem new_block (w : World) (o : Obj) : (w.alloc o).heap[w.heap.size]? = some o := World.alloc_heap_new w o
theorem old_block {w : World} {k : Nat} {o : Obj} (h : w.heap[k]? = some o) (o' : Obj) : (w.alloc o').heap[k]? = some o := (Keep.alloc (fun _ => True) w o').heap h trivial

/-- the variables that a literal uses, in order -/
def LitD.uses (L : LitD) : List ByteArray := (L.terms.filter (·.var)).map (·.text)
/-- the head as a literal -/
def RuleD.headLit (r : RuleD) : LitD := ⟨1, r.head, ⟨false, ⟨#[]⟩⟩, ⟨false, ⟨#[]⟩⟩⟩
def RuleD.lits (r : RuleD) : List LitD := r.headLit :: r.body
/-- where variables stand: in which literal (-1: the head), which -/
def standsOf : List LitD → Nat → List (Int × ByteArray)
  | [], _ => []
  | L :: ls, i => (L.uses.map fun t => ((i : Int) - 1, t)) ++ standsOf ls (i + 1)
def RuleD.stands (r : RuleD) : List (Int × ByteArray) := standsOf r.lits 0
/-- how many stand ahead of literal i -/
def RuleD.off (r : RuleD) (i : Nat) : Nat := (standsOf (r.lits.take i) 0).length

theorem standsOf_append (a b : List LitD) (i : Nat) : standsOf (a ++ b) i = standsOf a i ++ standsOf b (i + a.length) := by
  induction a generalizing i with
  | nil => simp [standsOf]
  | cons L a ih => simp [standsOf, ih, Nat.add_assoc, Nat.add_comm 1]
theorem off_succ {r : RuleD} {i : Nat} {L : LitD} (h : r.lits[i]? = some L) : r.off (i + 1) = r.off i + L.uses.length := by
  unfold RuleD.off
  have hlt : i < r.lits.length := (List.getElem?_eq_some_iff.1 h).1
  have he : r.lits[i] = L := (List.getElem?_eq_some_iff.1 h).2
  rw [List.take_succ_eq_append_getElem hlt, standsOf_append, List.length_append, he]
  simp [standsOf]
theorem off_all (r : RuleD) : r.off r.lits.length = r.stands.length := by simp [RuleD.off, RuleD.stands]
theorem off_le {r : RuleD} (i : Nat) : r.off i ≤ r.stands.length := by
  unfold RuleD.off RuleD.stands
  conv => rhs; rw [← List.take_append_drop i r.lits, standsOf_append]
  simp
theorem stands_at {r : RuleD} {i c : Nat} {L : LitD} (h : r.lits[i]? = some L) (hc : c < L.uses.length) : r.stands[r.off i + c]? = some ((i : Int) - 1, L.uses[c]) := by
  unfold RuleD.off RuleD.stands
  have hlt : i < r.lits.length := (List.getElem?_eq_some_iff.1 h).1
  have he : r.lits[i] = L := (List.getElem?_eq_some_iff.1 h).2
  have hs : r.lits = r.lits.take i ++ (L :: r.lits.drop (i + 1)) := by
    rw [← he, ← List.drop_eq_getElem_cons hlt, List.take_append_drop]
  conv => lhs; rw [hs, standsOf_append]
  have hl : (r.lits.take i).length = i := by simp; omega
  simp only [standsOf, hl, Nat.zero_add, List.take_append_of_le_length (Nat.le_of_eq hl.symm), List.take_take, Nat.min_self]
  have h2 : (List.take i (List.take i r.lits ++ L :: List.drop (i + 1) r.lits)) = List.take i r.lits := by
    rw [List.take_append_of_le_length (Nat.le_of_eq hl.symm), List.take_take, Nat.min_self]
  try rw [h2]
  rw [List.getElem?_append_right (by omega), Nat.add_sub_cancel_left, List.getElem?_append_left (by simpa using hc)]
  simp [hc]
/-- how many of the first k terms are variables -/
def LitD.cnt (L : LitD) (k : Nat) : Nat := ((L.terms.take k).filter (·.var)).length
theorem cnt_zero (L : LitD) : L.cnt 0 = 0 := by simp [LitD.cnt]
theorem cnt_all (L : LitD) : L.cnt L.terms.length = L.uses.length := by simp [LitD.cnt, LitD.uses]
theorem cnt_succ {L : LitD} {k : Nat} {t : TermD} (h : L.terms[k]? = some t) : L.cnt (k + 1) = L.cnt k + if t.var then 1 else 0 := by
  unfold LitD.cnt
  have hlt : k < L.terms.length := (List.getElem?_eq_some_iff.1 h).1
  have he : L.terms[k] = t := (List.getElem?_eq_some_iff.1 h).2
  rw [List.take_succ_eq_append_getElem hlt, List.filter_append, he]
  by_cases hv : t.var = true
  · simp [List.filter_cons, hv]
  · simp [List.filter_cons, Bool.eq_false_iff.2 hv]
theorem uses_at {L : LitD} {k : Nat} {t : TermD} (h : L.terms[k]? = some t) (hv : t.var = true) : L.uses[L.cnt k]? = some t.text := by
  unfold LitD.uses LitD.cnt
  have hlt : k < L.terms.length := (List.getElem?_eq_some_iff.1 h).1
  have he : L.terms[k] = t := (List.getElem?_eq_some_iff.1 h).2
  have hs : L.terms = L.terms.take k ++ (t :: L.terms.drop (k + 1)) := by
    rw [← he, ← List.drop_eq_getElem_cons hlt, List.take_append_drop]
  conv => lhs; rw [hs]
  rw [List.filter_append, List.map_append, List.filter_cons, if_pos hv, List.take_append_of_le_length (by simp; omega), List.take_take, Nat.min_self]
  rw [List.getElem?_append_right (by simp)]
  simp

/-- each once, where it first stands -/
def onceL (l : List ByteArray) : List ByteArray := l.foldl (fun acc x => if x ∈ acc then acc else acc ++ [x]) []
theorem onceL_snoc (l : List ByteArray) (x : ByteArray) : onceL (l ++ [x]) = if x ∈ onceL l then onceL l else onceL l ++ [x] := by
  unfold onceL; rw [List.foldl_append]; rfl
theorem onceL_len (l : List ByteArray) : (onceL l).length ≤ l.length := by
  have h : ∀ (l acc : List ByteArray), (l.foldl (fun acc x => if x ∈ acc then acc else acc ++ [x]) acc).length ≤ acc.length + l.length := by
    intro l
    induction l with
    | nil => simp
    | cons x l ih =>
      intro acc
      simp only [List.foldl_cons, List.length_cons]
      refine Nat.le_trans (ih _) ?_
      split <;> simp <;> omega
  simpa [onceL] using h l []
theorem onceL_go : ∀ (l acc : List ByteArray), (acc ++ l).Nodup → l.foldl (fun acc x => if x ∈ acc then acc else acc ++ [x]) acc = acc ++ l := by
  intro l
  induction l with
  | nil => simp
  | cons x l ih =>
    intro acc h
    have hx : x ∉ acc := fun hx => by
      rw [List.nodup_append] at h
      exact h.2.2 x hx x (by simp) rfl
    rw [List.foldl_cons, if_neg hx, ih]
    · simp
    · simpa using h
theorem onceL_nodup (l : List ByteArray) : (onceL l).Nodup := by
  have h : ∀ (l acc : List ByteArray), acc.Nodup → (l.foldl (fun acc x => if x ∈ acc then acc else acc ++ [x]) acc).Nodup := by
    intro l
    induction l with
    | nil => simp
    | cons x l ih =>
      intro acc ha
      rw [List.foldl_cons]
      split
      · exact ih _ ha
      · refine ih _ ?_
        rw [List.nodup_append]
        exact ⟨ha, by simp, fun a h1 b h2 e => by simp at h2; subst h2; subst e; contradiction⟩
  exact h l [] (by simp)
theorem onceL_idem (l : List ByteArray) : onceL (onceL l) = onceL l := by
  have := onceL_go (onceL l) [] (by simpa using onceL_nodup l)
  simpa [onceL] using this
theorem onceL_mem (l : List ByteArray) (x : ByteArray) : x ∈ onceL l ↔ x ∈ l := by
  have h : ∀ (l acc : List ByteArray), x ∈ l.foldl (fun acc x => if x ∈ acc then acc else acc ++ [x]) acc ↔ x ∈ acc ∨ x ∈ l := by
    intro l
    induction l with
    | nil => simp
    | cons y l ih =>
      intro acc
      simp only [List.foldl_cons, ih, List.mem_cons]
      split
      · constructor
        · rintro (h | h)
          · exact .inl h
          · exact .inr (.inr h)
        · rintro (h | h | h)
          · exact .inl h
          · subst h; exact .inl (by assumption)
          · exact .inr h
      · simp [or_assoc]
  simpa [onceL] using h l []
theorem find_at {α : Type} {p : α → Bool} {l : List α} {k : Nat} {s : α} (h : ∀ x, x ∈ l.take k → p x = false) (hk : l[k]? = some s) (hs : p s = true) : l.find? p = some s := by
  have hlt := (List.getElem?_eq_some_iff.1 hk).1
  have he := (List.getElem?_eq_some_iff.1 hk).2
  have hsplit : l = l.take k ++ (s :: l.drop (k + 1)) := by rw [← he, ← List.drop_eq_getElem_cons hlt, List.take_append_drop]
  rw [hsplit, List.find?_append, List.find?_eq_none.2 (fun x hx => by simp [h x hx]), List.find?_cons, hs]
  rfl
def RuleD.names (r : RuleD) : List ByteArray := r.stands.map (·.2)

/-- a rule by value: its three cells -/
def RuleIn (n : Nat) (w : World) (sh sb : Value) (r : RuleD) : Prop := TermsIn n w sh r.head.args ∧ LitsIn n w sb r.body
theorem RuleIn.keep {n : Nat} {w w' : World} {sh sb : Value} {r : RuleD} (h : RuleIn n w sh sb r) (hK : Keep (fun k => k < n) w w') : RuleIn n w' sh sb r := ⟨terms_keep h.1 hK, lits_keep h.2 hK⟩
theorem RuleIn.wider {n n' : Nat} {w : World} {sh sb : Value} {r : RuleD} (h : RuleIn n w sh sb r) (hn : n ≤ n') : RuleIn n' w sh sb r := ⟨terms_wider h.1 hn, lits_wider h.2 hn⟩

/-- a string in one cell -/
def StrE (w : World) (b o : Nat) (s : ByteArray) : Prop := w.cell? ⟨b, o, none⟩ = some (.string s)
abbrev StrsIn (n : Nat) (w : World) (v : Value) (ss : List ByteArray) : Prop := SliceIn n w 1 StrE v ss
theorem strs_keep {n : Nat} {w w' : World} {v : Value} {ts : List ByteArray} (h : StrsIn n w v ts) (hK : Keep (fun k => k < n) w w') : StrsIn n w' v ts :=
  h.mono fun _ _ _ hb h => hK.cell h hb
theorem strs_wider {n n' : Nat} {w : World} {v : Value} {ts : List ByteArray} (h : StrsIn n w v ts) (hn : n ≤ n') : StrsIn n' w v ts :=
  SliceIn.wider h hn fun _ _ _ _ h => h
/-- an int in one cell -/
def IntE (w : World) (b o : Nat) (s : Int) : Prop := w.cell? ⟨b, o, none⟩ = some (.int .i64 s)
abbrev IntsIn (n : Nat) (w : World) (v : Value) (ss : List Int) : Prop := SliceIn n w 1 IntE v ss

/-- what is owned reads as data: cells by elements -/
theorem own_slice {α : Type} {w : World} {base : Nat} {e : TypeId} {sz : Nat} {v : Value} {n : Nat} {xs : List Value} (h : w.ownsRow base e sz v n xs) (ds : List α) (hn : n = ds.length) (hb : ds.length ≤ 1073741824)
    (E : World → Nat → Nat → α → Prop) (hE : ∀ b k d, ds[k]? = some d → (∀ j, j < sz → w.cell? ⟨b, k * sz + j, none⟩ = xs[k * sz + j]?) → E w b (k * sz) d) : SliceIn w.heap.size w sz E v ds := by
  subst hn
  obtain ⟨hl, h⟩ := h
  rcases h with ⟨rfl, h0⟩ | ⟨g, cap, cur, rfl, hbg, hg, hc, hm, hs, ht⟩
  · refine ⟨none, 0, by rw [h0], hb, by simp [h0, maxLen], fun k x hx => ?_⟩
    have := (List.getElem?_eq_some_iff.1 hx).1
    omega
  · refine ⟨_, cap, rfl, hb, ⟨hc, hm⟩, fun k x hx => ⟨g, 0, rfl, heap_lt hg, ?_⟩⟩
    rw [Nat.zero_add]
    refine hE _ _ _ hx (fun j hj => ?_)
    have hk := (List.getElem?_eq_some_iff.1 hx).1
    have hlt : k * sz + j < ds.length * sz := by
      have : (k + 1) * sz ≤ ds.length * sz := Nat.mul_le_mul_right _ hk
      rw [Nat.add_mul] at this
      omega
    subst ht
    simp [World.cell?, hg, List.getElem?_take, hlt]
theorem own_strs {w : World} {base : Nat} {e : TypeId} {v : Value} {n : Nat} {ss : List ByteArray} (h : w.ownsRow base e 1 v n (ss.map .string)) (hb : ss.length ≤ 1073741824) : StrsIn w.heap.size w v ss :=
  own_slice h ss (by have := h.1; simpa using this.symm) hb StrE fun b k d hd hc => by
    have := hc 0 (by omega)
    simp only [Nat.mul_one, Nat.add_zero] at this ⊢
    rw [StrE, this]; simp [hd]
theorem own_ints {w : World} {base : Nat} {e : TypeId} {v : Value} {n : Nat} {ss : List Int} (h : w.ownsRow base e 1 v n (ss.map (.int .i64))) (hb : ss.length ≤ 1073741824) : IntsIn w.heap.size w v ss :=
  own_slice h ss (by have := h.1; simpa using this.symm) hb IntE fun b k d hd hc => by
    have := hc 0 (by omega)
    simp only [Nat.mul_one, Nat.add_zero] at this ⊢
    rw [IntE, this]; simp [hd]

/-- the block of what is owned -/
theorem own_kept {w w' : World} {base : Nat} {e : TypeId} {sz : Nat} {v : Value} {n : Nat} {xs : List Value} {C : Nat → Prop} (h : w.ownsRow base e sz v n xs) (hK : Keep C w w') (hC : ∀ b, v.ownBlock = some b → C b) : w'.ownsRow base e sz v n xs := by
  refine ⟨h.1, ?_⟩
  rcases h.2 with hn | ⟨g, cap, cur, rfl, hb, hgg, rest⟩
  · exact .inl hn
  · exact .inr ⟨g, cap, cur, rfl, hb, hK.heap hgg (hC g rfl), rest⟩

theorem flatMap_at {α : Type} (f : α → List Value) (sz : Nat) (hf : ∀ a, (f a).length = sz) : ∀ (ps : List α) (k j : Nat) (p : α), ps[k]? = some p → j < sz → (ps.flatMap f)[k * sz + j]? = (f p)[j]? := by
  intro ps
  induction ps with
  | nil => intro k j p h; simp at h
  | cons a ps ih =>
    intro k j p h hj
    cases k with
    | zero =>
      simp at h
      subst h
      simp only [List.flatMap_cons, Nat.zero_mul, Nat.zero_add]
      rw [List.getElem?_append_left (by rw [hf]; exact hj)]
    | succ k =>
      simp only [List.getElem?_cons_succ] at h
      simp only [List.flatMap_cons]
      have e : (k + 1) * sz + j = sz + (k * sz + j) := by rw [Nat.add_mul]; omega
      rw [e, List.getElem?_append_right (by rw [hf]; omega), hf, Nat.add_sub_cancel_left]
      exact ih k j p h hj
theorem flatMap_len {α : Type} (f : α → List Value) (sz : Nat) (hf : ∀ a, (f a).length = sz) (ps : List α) : (ps.flatMap f).length = ps.length * sz := by
  induction ps with
  | nil => simp
  | cons a ps ih => simp [hf, ih, Nat.add_mul]; omega

/-- literals that a slice of the call's own holds -/
theorem own_lits {n0 : Nat} {w : World} {base : Nat} {e : TypeId} {v : Value} {n : Nat} {ps : List (LitD × Value)} (h : w.ownsRow base e 7 v n (ps.flatMap fun p => litCells p.1 p.2)) (hb : ps.length ≤ 1073741824) (hn : n0 ≤ w.heap.size)
    (hps : ∀ p, p ∈ ps → TermsIn n0 w p.2 p.1.atom.args) : LitsIn w.heap.size w v (ps.map (·.1)) :=
  own_slice h (ps.map (·.1)) (by have := h.1; rw [flatMap_len _ 7 (fun _ => rfl)] at this; simp; omega) (by simpa using hb) (LitE w.heap.size) fun b k d hd hc => by
    rw [List.getElem?_map] at hd
    obtain ⟨p, hp, rfl⟩ := Option.map_eq_some_iff.1 hd
    refine ⟨p.2, fun j u hu => ?_, terms_wider (hps p (List.mem_of_getElem? hp)) hn⟩
    have hj : j < 7 := (List.getElem?_eq_some_iff.1 hu).1
    rw [hc j hj, flatMap_at _ 7 (fun _ => rfl) ps k j p hp hj]
    exact hu

theorem names_eq (r : RuleD) : r.names = r.headLit.uses ++ r.body.flatMap LitD.uses := by
  have h : ∀ (ls : List LitD) (i : Nat), (standsOf ls i).map (·.2) = ls.flatMap LitD.uses := by
    intro ls
    induction ls with
    | nil => simp [standsOf]
    | cons L ls ih => intro i; simp [standsOf, ih, Function.comp_def]
  rw [RuleD.names, RuleD.stands, h, RuleD.lits, List.flatMap_cons]
/-- the variables that a body binds -/
def boundOf (body : List LitD) : List ByteArray := onceL ((body.filter fun L => L.kind == 1).flatMap LitD.uses)

/-! ### a map of strings to true: a set -/
/-- block b is a map that holds just the strings of s, each true -/
def SetIn (w : World) (b : Nat) (s : List ByteArray) : Prop :=
  ∃ es clock, w.heap[b]? = some (.map es clock) ∧ es.toList.map (fun e => (e.key, e.val)) = s.map fun k => (Value.string k, Value.bool true)
theorem SetIn.keep {w w' : World} {b : Nat} {s : List ByteArray} {C : Nat → Prop} (h : SetIn w b s) (hK : Keep C w w') (hC : C b) : SetIn w' b s := by
  obtain ⟨es, c, h1, h2⟩ := h
  exact ⟨es, c, hK.heap h1 hC, h2⟩
theorem setIn_new (w : World) : SetIn (w.alloc (.map #[] 0)) w.heap.size [] := ⟨#[], 0, new_block w _, rfl⟩
theorem SetIn.lt {w : World} {b : Nat} {s : List ByteArray} (h : SetIn w b s) : b < w.heap.size := by
  obtain ⟨es, c, h1, h2⟩ := h
  exact heap_lt h1

theorem findNow_set (k : ByteArray) : ∀ (s : List ByteArray) (es : List MapEntry) (i : Nat), es.map (fun e => (e.key, e.val)) = s.map (fun k => (Value.string k, Value.bool true)) →
    ∃ r, Instr.findNow .string (.string k) es i = some r ∧ (r = none ∧ k ∉ s ∨ ∃ j, r = some (i + j, .bool true) ∧ s[j]? = some k) := by
  intro s
  induction s with
  | nil => intro es i h; cases es with
    | nil => exact ⟨none, rfl, .inl ⟨rfl, by simp⟩⟩
    | cons e es => simp at h
  | cons a s ih => intro es i h; cases es with
    | nil => simp at h
    | cons e es =>
      simp only [List.map_cons, List.cons.injEq, Prod.mk.injEq] at h
      obtain ⟨⟨h1, h2⟩, h3⟩ := h
      by_cases hk : k = a
      · subst hk
        refine ⟨some (i, .bool true), ?_, .inr ⟨0, rfl, rfl⟩⟩
        simp [Instr.findNow, Instr.sameNow, h1, h2]
      · obtain ⟨r, hr, hh⟩ := ih es (i + 1) h3
        refine ⟨r, ?_, ?_⟩
        · have : (k == a) = false := by simpa using hk
          simp [Instr.findNow, Instr.sameNow, h1, this, hr]
        · rcases hh with ⟨rfl, hn⟩ | ⟨j, rfl, hj⟩
          · exact .inl ⟨rfl, by simp [hk, hn]⟩
          · exact .inr ⟨j + 1, by simp; omega, by simpa using hj⟩

section
variable {P : Program} {T K E : TypeId} (hT : P.underlying T = some (.map K E)) (hK : P.underlying K = some .string)
include hT hK

theorem run_lookup_set (hE : ∀ w, (zeroValue E).run P w = .ok (.bool false) w) {w : World} {b : Nat} {s : List ByteArray} (h : SetIn w b s) (k : ByteArray) :
    (Instr.lookup T (.map (some b)) (.string k) false).run P w = .ok (.bool (decide (k ∈ s))) w := by
  obtain ⟨es, c, h1, h2⟩ := h
  obtain ⟨r, hr, hh⟩ := findNow_set k s es.toList 0 h2
  have hg : (getObj b).run P w = .ok (.map es c) w := by simp [getObj, Sem.run, h1]
  have hc : ∀ e n, (Instr.checkKey e (n + 1) K (.string k)).run P w = .ok () w := by intro e n; simp [Instr.checkKey, Sem.run_bind, run_underlying hK, Result.andThen]
  simp only [Instr.lookup, Sem.run_bind, run_underlying hT, Result.andThen, hg, Sem.run_pure, hc, Instr.findKey, run_underlying hK, hr]
  rcases hh with ⟨rfl, hn⟩ | ⟨j, rfl, hj⟩
  · simp [Sem.run_bind, hE, Result.andThen, hn]
  · have : k ∈ s := List.mem_of_getElem? hj
    simp [Sem.run_bind, Result.andThen, this]

theorem run_update_set {w : World} {b : Nat} {s : List ByteArray} (h : SetIn w b s) (k : ByteArray) :
    ∃ w', (Instr.mapUpdate T (.map (some b)) (.string k) (.bool true)).run P w = .ok () w' ∧ SetIn w' b (if k ∈ s then s else s ++ [k]) ∧ Keep (fun j => j ≠ b) w w' ∧ w'.heap.size = w.heap.size := by
  obtain ⟨es, c, h1, h2⟩ := h
  obtain ⟨r, hr, hh⟩ := findNow_set k s es.toList 0 h2
  have hg : (getObj b).run P w = .ok (.map es c) w := by simp [getObj, Sem.run, h1]
  have hset : ∀ o, (setObj b o).run P w = .ok () (w.putObj b o) := by intro o; simp [setObj, Sem.run, h1, World.putObj]
  have hc : ∀ e n, (Instr.checkKey e (n + 1) K (.string k)).run P w = .ok () w := by intro e n; simp [Instr.checkKey, Sem.run_bind, run_underlying hK, Result.andThen]
  rcases hh with ⟨rfl, hn⟩ | ⟨j, rfl, hj⟩
  · refine ⟨w.putObj b (.map (es.push { key := .string k, val := .bool true, born := c }) (c + 1)), ?_, ?_, Keep.putObj _ _ _ (by simp), by simp⟩
    · simp [Instr.mapUpdate, Sem.run_bind, run_underlying hT, Result.andThen, hg, hc, Instr.findKey, run_underlying hK, hr, hset]
    · exact ⟨_, _, World.putObj_heap_same (heap_lt h1), by simp [hn, h2]⟩
  · have hmem : k ∈ s := List.mem_of_getElem? hj
    have hkey : (es[j]?).map (·.key) = some (.string k) := by
      have h3 := congrArg (fun l => l[j]?) h2
      simp only [List.getElem?_map, hj, Option.map_some] at h3
      cases he : es[j]? with
      | none => simp [he] at h3
      | some e => simp [he] at h3; simp [h3.1]
    have hsame : (Instr.keyThatStays (.string k) (.string k)).run P w = .ok (.string k) w := by simp [Instr.keyThatStays, Instr.sameBits]
    refine ⟨w.putObj b (.map (es.modify j fun e => { e with key := .string k, val := .bool true }) c), ?_, ?_, Keep.putObj _ _ _ (by simp), by simp⟩
    · simp [Instr.mapUpdate, Sem.run_bind, run_underlying hT, Result.andThen, hg, hc, Instr.findKey, run_underlying hK, hr, hset, hkey, hsame]
    · refine ⟨_, _, World.putObj_heap_same (heap_lt h1), ?_⟩
      rw [if_pos hmem, ← h2]
      apply List.ext_getElem?
      intro i
      simp only [List.getElem?_map, Array.getElem?_toList, Array.getElem?_modify]
      by_cases hi : j = i
      · subst hi
        have h3 := congrArg (fun l => l[j]?) h2
        simp only [List.getElem?_map, hj, Option.map_some] at h3
        cases he : es[j]? with
        | none => simp [he] at h3
        | some e => simp [he] at h3; simp [h3]
      · simp [hi]
end

end Go.Ink
