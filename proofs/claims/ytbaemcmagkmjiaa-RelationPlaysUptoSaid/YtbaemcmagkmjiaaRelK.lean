/- Layer 4, the program's relation in memory: whose each block is (tags), a look, the relation; what a new place does to a look. -/
import Derived.Test.YtbaemcmagkmjiaaProg
import Derived.Test.YtbaemcmagkmjiaaRelJToHoistB
import Derived.Test.YtbaemcmagkmjiaaRelBToRelD
import Derived.Test.YtbaemcmagkmjiaaRelIToOwnB
import Derived.WideKeyArr
namespace Go.Proofs
open Go.RowKit Go.Ink Go.WideMaps
set_option linter.unusedVariables false
set_option linter.unusedSimpArgs false

/-- a number that an int holds -/
def okI (x : Int) : Prop := -9223372036854775808 ≤ x ∧ x ≤ 9223372036854775807
def okT (t : List Int) : Prop := ∀ x ∈ t, okI x

theorem arrKey : ArrKey Try.prog 81 3 16 := ⟨Try.underlying81, by kernel_rfl, by kernel_rfl, by kernel_rfl⟩
theorem arrCols : ArrKey Try.prog 85 4 16 := ⟨Try.underlying85, by kernel_rfl, by kernel_rfl, by kernel_rfl⟩
theorem types_some : ∃ m, Try.prog.types.size = m + 1 := ⟨Try.prog.types.size - 1, by
  have : 0 < Try.prog.types.size := of_decide_eq_true (by kernel_rfl)
  omega⟩
theorem mapM_some {α β : Type} (f : α → Option β) : ∀ L : List α, (∀ i ∈ L, ∃ x, f i = some x) → ∃ xs, L.mapM f = some xs
  | [], _ => ⟨[], rfl⟩
  | i :: L, h => by
    obtain ⟨x, hx⟩ := h i (by simp)
    obtain ⟨xs, hxs⟩ := mapM_some f L (fun j hj => h j (by simp [hj]))
    exact ⟨x :: xs, by rw [List.mapM_cons, hx, hxs]; rfl⟩
theorem keyOf_arr {P : Program} {k e : TypeId} {n : Nat} (A : ArrKey P k e n) (hsz : ∃ m, P.types.size = m + 1) (vs : List Value) (hn : vs.length = n) (h : ∀ v ∈ vs, ∃ l, ∀ D, P.keyLits (D + 1) e [v] = some l) : ∃ l, keyOf P k (.agg vs.toArray) = some l := by
  have hkt := A.keyType hsz
  obtain ⟨m, hm⟩ := hsz
  unfold keyOf
  simp only [A.hu]
  rw [if_pos (by simp [hkt, Value.formed, A.hu, A.size, hn]), hm]
  unfold Program.keyLits
  simp only [A.hu, Value.cells]
  rw [if_pos (by rw [A.size]; exact hn)]
  obtain ⟨xs, hxs⟩ := mapM_some (fun i => P.keyLits (m + 1) e ((vs.drop (i * P.cellsOf e)).take (P.cellsOf e))) (List.range n) (fun i hi => by
    rw [A.one, Nat.mul_one]
    have hi := List.mem_range.1 hi
    have h1 : (vs.drop i).take 1 = [vs[i]'(by omega)] := by
      rw [List.drop_eq_getElem_cons (by omega)]
      rfl
    rw [h1]
    obtain ⟨l, hl⟩ := h _ (List.getElem_mem (by omega : i < vs.length))
    exact ⟨l, hl m⟩)
  simp only [hxs]
  exact ⟨_, rfl⟩
theorem key_ok {k : List Int} (hl : k.length = 16) (h : okT k) : ∃ l, keyOf Try.prog 81 (keyV k) = some l :=
  keyOf_arr arrKey types_some _ (by simp [hl]) (fun v hv => by
    obtain ⟨x, hx, rfl⟩ := List.mem_map.1 hv
    have := h x hx
    refine ⟨[.int .i64 x], fun D => ?_⟩
    unfold Program.keyLits
    have hw : (Lit.int .i64 x).wf = true := by
      simp only [Lit.wf, Bool.and_eq_true, decide_eq_true_eq]
      exact this
    simp only [Try.underlying3, hw, and_self, if_true])
def colV (c : List Bool) : Value := .agg (c.map .bool).toArray
theorem colV_inj : ∀ a b : List Bool, colV a = colV b → a = b := by
  intro a b h
  unfold colV at h
  injection h with h
  have h2 : a.map Value.bool = b.map .bool := by simpa using congrArg Array.toList h
  clear h
  induction a generalizing b with
  | nil => cases b with
    | nil => rfl
    | cons y b => simp at h2
  | cons x a ih => cases b with
    | nil => simp at h2
    | cons y b =>
      simp only [List.map_cons, List.cons.injEq, Value.bool.injEq] at h2
      rw [h2.1, ih b h2.2]
theorem col_ok {c : List Bool} (hl : c.length = 16) : ∃ l, keyOf Try.prog 85 (colV c) = some l :=
  keyOf_arr arrCols types_some _ (by simp [hl]) (fun v hv => by
    obtain ⟨x, hx, rfl⟩ := List.mem_map.1 hv
    refine ⟨[.bool x], fun D => ?_⟩
    unfold Program.keyLits
    rw [Try.underlying4])
theorem okT_pad {t : List Int} (h : okT t) : okT (padK t) := by
  intro x hx
  unfold padK at hx
  rcases List.mem_append.1 hx with hx | hx
  · exact h x hx
  · have := List.eq_of_mem_replicate hx
    subst this
    exact ⟨by decide, by decide⟩
theorem okT_cut {t l : List Int} (h : okT t) : okT (cutL t l) := by
  intro x hx
  unfold cutL at hx
  obtain ⟨c, _, rfl⟩ := List.mem_map.1 hx
  rw [List.getD_eq_getElem?_getD]
  cases he : t[c.toNat]? with
  | none => exact ⟨by decide, by decide⟩
  | some y => exact h y (List.mem_of_getElem? he)

/-- whose a block of a relation is -/
inductive Tag where
  | box | data | pmap | kmap
  | lbox (c : List Bool) | llist (c : List Bool) | lmap (c : List Bool)
  | ent (c : List Bool) (k : List Int) (p : Nat)
abbrev Tags := Nat → Option Tag
def lookT : Option Tag → Option (List Bool)
  | some (.lbox c) | some (.llist c) | some (.lmap c) | some (.ent c _ _) => some c
  | _ => none
/-- tags only grow -/
def TagLe (s t : Tags) : Prop := ∀ b T, s b = some T → t b = some T ∨ ∃ c k p q, T = .ent c k p ∧ t b = some (.ent c k q) ∧ p ≤ q
theorem TagLe.refl (s : Tags) : TagLe s s := fun _ _ h => .inl h
theorem TagLe.trans {s t u : Tags} (h : TagLe s t) (g : TagLe t u) : TagLe s u := by
  intro b T hb
  rcases h b T hb with h1 | ⟨c, k, p, q, rfl, h1, hpq⟩
  · exact g b T h1
  · rcases g b _ h1 with h2 | ⟨c2, k2, p2, q2, h3, h2, hpq2⟩
    · exact .inr ⟨c, k, p, q, rfl, h2, hpq⟩
    · cases h3
      exact .inr ⟨c, k, p, q2, rfl, h2, by omega⟩

/-- the columns as a row of bools -/
def maskOf (l : List Int) : List Bool := (List.range 16).map fun i : Nat => decide ((i : Int) ∈ l)
/-- the places of the tuples with a key -/
def idx (ts : List (List Int)) (l k : List Int) : List Nat := (List.range ts.length).filter fun i => decide (cutK (ts.getD i []) l = k)
theorem idx_add (ts : List (List Int)) (t l k : List Int) : idx (ts ++ [t]) l k = idx ts l k ++ (if cutK t l = k then [ts.length] else []) := by
  unfold idx
  rw [List.length_append, List.length_singleton, List.range_succ, List.filter_append]
  congr 1
  · refine List.filter_congr fun i hi => ?_
    rw [List.mem_range] at hi
    rw [List.getD_eq_getElem?_getD, List.getD_eq_getElem?_getD, List.getElem?_append_left hi]
  · by_cases hc : cutK t l = k
    · simp [List.filter_cons, List.getD_eq_getElem?_getD, hc]
    · simp [List.filter_cons, List.getD_eq_getElem?_getD, hc]
theorem idx_len (ts : List (List Int)) (l k : List Int) : (idx ts l k).length ≤ ts.length := by
  unfold idx
  exact Nat.le_trans (List.length_filter_le _ _) (by simp)

abbrev natV (i : Nat) : Value := .int .i64 (i : Int)
abbrev KeyMap (w : World) (M : Nat) (m : List (List Int × Value)) : Prop := MapIn Try.prog 81 keyV (fun v : Value => v) w M m

/-- one look of a relation -/
structure LookAt (tag : Tags) (w : World) (n : Nat) (ts : List (List Int)) (c : List Bool) (L : Nat) (l : List Int) (vl : Value) (M : Nat) (m : List (List Int × Value)) : Prop where
  row : rowD n l = true
  mask : maskOf l = c
  tagL : tag L = some (.lbox c)
  box : w.heap[L]? = some (.cells #[vl, .map (some M)] 92 (0, 0))
  tagM : tag M = some (.lmap c)
  map : KeyMap w M m
  list : w.ownsRow 0 3 1 vl l.length (l.map (.int .i64))
  tagl : ∀ b, vl.ownBlock = some b → tag b = some (.llist c)
  keys : ∀ k, k ∈ m.map (·.1) ↔ ∃ t ∈ ts, cutK t l = k
  few : m.length ≤ ts.length
  ents : ∀ k v, (k, v) ∈ m → w.ownsRow 0 3 1 v (idx ts l k).length ((idx ts l k).map natV) ∧ ∀ b, v.ownBlock = some b → tag b = some (.ent c k (idx ts l k).length)
  blocks : ∀ b k p, tag b = some (.ent c k p) → ∀ j, j < p → ∃ i, (idx ts l k)[j]? = some i ∧ w.cell? ⟨b, j, none⟩ = some (natV i)

theorem LookAt.keep {tag tag' : Tags} {w w' : World} {n : Nat} {ts : List (List Int)} {c : List Bool} {L M : Nat} {l : List Int} {vl : Value} {m : List (List Int × Value)} {C : Nat → Prop} (h : LookAt tag w n ts c L l vl M m) (hK : Keep C w w') (hC : ∀ b, lookT (tag b) = some c → C b) (ht : ∀ b, lookT (tag b) = some c → tag' b = tag b) (ht2 : ∀ b, lookT (tag' b) = some c → tag' b = tag b) : LookAt tag' w' n ts c L l vl M m := by
  have hL : lookT (tag L) = some c := by rw [h.tagL]; rfl
  have hM : lookT (tag M) = some c := by rw [h.tagM]; rfl
  have hl : ∀ b, vl.ownBlock = some b → lookT (tag b) = some c := fun b hb => by rw [h.tagl b hb]; rfl
  refine ⟨h.row, h.mask, (ht L hL).trans h.tagL, hK.heap h.box (hC L hL), (ht M hM).trans h.tagM, h.map.keep hK (hC M hM), own_kept h.list hK (fun b hb => hC b (hl b hb)), fun b hb => (ht b (hl b hb)).trans (h.tagl b hb), h.keys, h.few, fun k v hkv => ?_, fun b k p hb j hj => ?_⟩
  · obtain ⟨h1, h2⟩ := h.ents k v hkv
    have h3 : ∀ b, v.ownBlock = some b → lookT (tag b) = some c := fun b hb => by rw [h2 b hb]; rfl
    exact ⟨own_kept h1 hK (fun b hb => hC b (h3 b hb)), fun b hb => (ht b (h3 b hb)).trans (h2 b hb)⟩
  · have h0 := ht2 b (by rw [hb]; rfl)
    rw [hb] at h0
    obtain ⟨i, h1, h2⟩ := h.blocks b k p h0.symm j hj
    exact ⟨i, h1, hK.cell h2 (hC b (by rw [← h0]; rfl))⟩

/-- what a step of one look does to the tags -/
structure TagStep (c : List Bool) (tag tag' : Tags) (w w' : World) : Prop where
  le : TagLe tag tag'
  old : ∀ b, b < w.heap.size → lookT (tag b) ≠ some c → tag' b = tag b
  new : ∀ b T, tag' b = some T → b < w'.heap.size ∧ (w.heap.size ≤ b → lookT (some T) = some c)
  ents : ∀ b c', lookT (tag' b) = some c' → lookT (tag b) = some c' ∨ c' = c

theorem key_zero : ∀ w : World, (zeroValue 23).run Try.prog w = .ok (.slice none 0 0) w := fun w => by kernel_rfl

theorem join_tail {tag : Tags} {W W2 : World} {n : Nat} {ts : List (List Int)} {c : List Bool} {L M : Nat} {l : List Int} {vl : Value} {m : List (List Int × Value)} (h : LookAt tag W n ts c L l vl M m) (hlt : ∀ b T, tag b = some T → b < W.heap.size) (t : List Int) (hts : ts.length ≤ 536870912)
    (hK2 : Keep (fun b => b ≠ M) W W2) (hs2 : W2.heap.size = W.heap.size + 1) (hnb : W2.heap[W.heap.size]? = some (.cells #[natV ts.length] 3 (0, 0))) (v0 : Value) (hv0 : (∃ v, (cutK t l, v) ∈ m ∧ v0 = v) ∨ (cutK t l ∉ m.map (·.1) ∧ v0 = .slice none 0 0)) (st : Int)
    (hst : ∀ w2 : World, w2.heap[M]? = W2.heap[M]? → ∀ v : Value, ∃ w3, (Instr.entryStore 90 (.map (some M)) (.int .i64 st) v).run Try.prog w2 = .ok () w3 ∧ KeyMap w3 M (setK m (cutK t l) v) ∧ Keep (fun j => j ≠ M) w2 w3 ∧ w3.heap.size = w2.heap.size) :
    ∃ v' W3 W4, (Builtin.append_ #[23, 23] 23 #[v0, .slice (some ⟨W.heap.size, 0, none⟩) 1 1]).run Try.prog W2 = .ok v' W3 ∧ (Instr.entryStore 90 (.map (some M)) (.int .i64 st) v').run Try.prog W3 = .ok () W4 ∧ Keep (fun b => b ≠ M ∧ ∀ k p, tag b ≠ some (.ent c k p)) W W3 ∧
      ∃ tag', LookAt tag' W4 n (ts ++ [t]) c L l vl M (setK m (cutK t l) v') ∧ TagStep c tag tag' W W4 ∧ Keep (fun b => lookT (tag b) ≠ some c) W W4 := by
  have hMlt := hlt M _ h.tagM
  have hown0 : W.ownsRow 0 3 1 v0 (idx ts l (cutK t l)).length ((idx ts l (cutK t l)).map natV) ∧ ∀ b, v0.ownBlock = some b → tag b = some (.ent c (cutK t l) (idx ts l (cutK t l)).length) := by
    rcases hv0 with ⟨v, hv, rfl⟩ | ⟨hno, rfl⟩
    · exact h.ents _ _ hv
    · have : idx ts l (cutK t l) = [] := by
        refine List.filter_eq_nil_iff.2 fun i hi => ?_
        rw [List.mem_range] at hi
        simp only [decide_eq_true_eq]
        intro he
        refine hno ((h.keys _).2 ⟨ts.getD i [], ?_, he⟩)
        rw [List.getD_eq_getElem?_getD, List.getElem?_eq_getElem hi]
        exact List.getElem_mem hi
      rw [this]
      exact ⟨World.ownsRow_nil _ _ _ _, fun b hb => by simp [Value.ownBlock] at hb⟩
  obtain ⟨ho0, ht0⟩ := hown0
  have hM0 : ∀ b, v0.ownBlock = some b → b ≠ M := fun b hb e => by have := ht0 b hb; rw [e, h.tagM] at this; cases this
  have ho2 := own_kept ho0 hK2 hM0
  have hil := idx_len ts l (cutK t l)
  obtain ⟨v', W3, hr3, ho3, g, cap, hv', hg, hgl, hK3⟩ := appK el_int 23 ho2 ⟨W.heap.size, 0, none⟩ 1 1 [natV ts.length] rfl (fun j u hj => by
    have := cells_of_block hnb j u (by simpa using hj)
    simp only [Nat.zero_add] at this
    rw [show ((⟨W.heap.size, 0, none⟩ : Addr).add j) = ⟨W.heap.size, j, none⟩ from by unfold Addr.add; split <;> simp_all]
    exact this) (by simp [Value.oneCell']) (by omega) (by omega) (by omega)
  have hgtag : tag g = some (.ent c (cutK t l) (idx ts l (cutK t l)).length) ∨ (tag g = none ∧ W.heap.size < g) := by
    rcases hg with hg | hg
    · exact .inl (ht0 g hg)
    · refine .inr ⟨?_, by omega⟩
      cases hT : tag g with
      | none => rfl
      | some T => have := hlt g T hT; omega
  have hgne : ∀ b, lookT (tag b) = some c → (∀ p, tag b ≠ some (.ent c (cutK t l) p)) → b ≠ g := fun b hb hno e => by
    subst e
    rcases hgtag with h1 | ⟨h1, _⟩
    · exact hno _ h1
    · rw [h1] at hb; cases hb
  have hMg : M ≠ g := hgne M (by rw [h.tagM]; rfl) (fun p => by rw [h.tagM]; exact fun e => (by cases e))
  obtain ⟨W4, hr4, hm4, hK4, hs4⟩ := hst W3 (hK3.block M (by omega) hMg) v'
  have hz3 := hK3.size
  have hKK : Keep (fun b => b ≠ M ∧ b ≠ g) W W4 := (hK2.mono fun b _ h => h.1).trans ((hK3.mono fun b _ h => h.2).trans (hK4.mono fun b _ h => h.1))
  have hKm : Keep (fun b => b ≠ M ∧ ∀ k p, tag b ≠ some (.ent c k p)) W W3 := (hK2.mono fun b _ h => h.1).trans (hK3.mono fun b hb h e => by
    subst e
    rcases hgtag with h1 | ⟨_, h1⟩
    · exact h.2 _ _ h1
    · rcases hg with hg | hg
      · have := (World.ownsRow.lt ho0 _ hg).2; omega
      · omega)
  refine ⟨v', W3, W4, hr3, hr4, hKm, fun b => if b = g then some (.ent c (cutK t l) ((idx ts l (cutK t l)).length + 1)) else tag b, ?_, ⟨?_, ?_, ?_, ?_⟩, ?_⟩
  · have hlook : ∀ b, lookT (tag b) = some c → b ≠ M → b ≠ g → b ≠ M ∧ b ≠ g := fun b _ h1 h2 => ⟨h1, h2⟩
    have hL : L ≠ M ∧ L ≠ g := ⟨fun e => (by have := h.tagL; rw [e, h.tagM] at this; cases this), hgne L (by rw [h.tagL]; rfl) (fun p => by rw [h.tagL]; exact fun e => (by cases e))⟩
    have hll : ∀ b, vl.ownBlock = some b → b ≠ M ∧ b ≠ g := fun b hb => ⟨fun e => (by have := h.tagl b hb; rw [e, h.tagM] at this; cases this), hgne b (by rw [h.tagl b hb]; rfl) (fun p => by rw [h.tagl b hb]; exact fun e => (by cases e))⟩
    refine ⟨h.row, h.mask, by rw [if_neg hL.2]; exact h.tagL, hKK.heap h.box hL, by rw [if_neg hMg]; exact h.tagM, hm4, own_kept h.list hKK hll, fun b hb => by rw [if_neg (hll b hb).2]; exact h.tagl b hb, fun k => ?_, ?few, fun k v hkv => ?_, fun b k p hb j hj => ?_⟩
    case few =>
      have := h.few
      unfold setK
      split <;> simp <;> omega
    · have hset : k ∈ (setK m (cutK t l) v').map (·.1) ↔ k ∈ m.map (·.1) ∨ k = cutK t l := by
        by_cases hin : cutK t l ∈ m.map (·.1)
        · rw [setK_keys hin]
          exact ⟨.inl, fun h => h.elim id (fun e => e ▸ hin)⟩
        · unfold setK
          rw [if_neg hin]
          simp
      rw [hset, h.keys]
      constructor
      · rintro (⟨t1, ht1, e⟩ | e)
        · exact ⟨t1, by simp [ht1], e⟩
        · exact ⟨t, by simp, e.symm⟩
      · rintro ⟨t1, ht1, e⟩
        rcases List.mem_append.1 ht1 with ht1 | ht1
        · exact .inl ⟨t1, ht1, e⟩
        · have : t1 = t := by simpa using ht1
          subst this
          exact .inr e.symm
    · have hcase : (k = cutK t l ∧ v = v') ∨ (k ≠ cutK t l ∧ (k, v) ∈ m) := by
        unfold setK at hkv
        split at hkv
        · obtain ⟨p, hp, he⟩ := List.mem_map.1 hkv
          split at he
          · rename_i e1
            cases he
            exact .inl ⟨rfl, rfl⟩
          · rename_i e1
            subst he
            exact .inr ⟨e1, hp⟩
        · rename_i hno
          rcases List.mem_append.1 hkv with hp | hp
          · exact .inr ⟨fun e => hno (e ▸ List.mem_map.2 ⟨_, hp, rfl⟩), hp⟩
          · simp at hp
            exact .inl hp
      rcases hcase with ⟨rfl, rfl⟩ | ⟨hne, hmem⟩
      · rw [idx_add, if_pos rfl]
        refine ⟨?_, fun b hb => ?_⟩
        · have := own_kept ho3 hK4 (fun b hb => by rw [hv'] at hb; simp only [Value.ownBlock, Option.some.injEq] at hb; rw [← hb]; exact fun e => hMg e.symm)
          simpa using this
        · rw [hv'] at hb
          simp only [Value.ownBlock, Option.some.injEq] at hb
          rw [if_pos hb.symm]
          simp
      · rw [idx_add, if_neg (fun e => hne e.symm), List.append_nil]
        obtain ⟨h1, h2⟩ := h.ents k v hmem
        have h3 : ∀ b, v.ownBlock = some b → b ≠ M ∧ b ≠ g := fun b hb => ⟨fun e => (by have := h2 b hb; rw [e, h.tagM] at this; cases this), hgne b (by rw [h2 b hb]; rfl) (fun p => by rw [h2 b hb]; exact fun e => by cases e; exact hne rfl)⟩
        exact ⟨own_kept h1 hKK h3, fun b hb => by rw [if_neg (h3 b hb).2]; exact h2 b hb⟩
    · by_cases hbg : b = g
      · subst hbg
        rw [if_pos rfl] at hb
        simp only [Option.some.injEq, Tag.ent.injEq, true_and] at hb
        obtain ⟨hk, rfl⟩ := hb
        subst hk
        rw [idx_add, if_pos rfl]
        obtain ⟨i, hi⟩ : ∃ i, (idx ts l (cutK t l) ++ [ts.length])[j]? = some i := ⟨_, List.getElem?_eq_getElem (by simp; omega)⟩
        refine ⟨i, hi, ?_⟩
        rw [hv'] at ho3
        have := own_elem ho3 j (natV i) (by rw [show (idx ts l (cutK t l)).map natV ++ [natV ts.length] = (idx ts l (cutK t l) ++ [ts.length]).map natV from by simp, List.getElem?_map, hi]; rfl)
        exact hK4.cell this (fun e => hMg e.symm)
      · rw [if_neg hbg] at hb
        obtain ⟨i, h1, h2⟩ := h.blocks b k p hb j hj
        refine ⟨i, ?_, hKK.cell h2 ⟨fun e => ?_, hbg⟩⟩
        · rw [idx_add, List.getElem?_append_left (List.getElem?_eq_some_iff.1 h1).1]; exact h1
        · simp only at e
          rw [e, h.tagM] at hb; cases hb
  · intro b T hb
    by_cases hbg : b = g
    · subst hbg
      rcases hgtag with h1 | ⟨h1, _⟩
      · rw [h1] at hb
        cases hb
        exact .inr ⟨c, _, _, _, rfl, if_pos rfl, by omega⟩
      · rw [h1] at hb; cases hb
    · exact .inl (by show (if b = g then _ else _) = _; rw [if_neg hbg]; exact hb)
  · intro b hbl hb
    have hbg : b ≠ g := fun e => by
      subst e
      rcases hgtag with h1 | ⟨_, h1⟩
      · rw [h1] at hb; exact hb rfl
      · omega
    show (if b = g then _ else _) = _
    rw [if_neg hbg]
  · intro b T hb
    by_cases hbg : b = g
    · subst hbg
      simp only [if_true] at hb
      cases hb
      exact ⟨by omega, fun _ => rfl⟩
    · simp only [if_neg hbg] at hb
      have := hlt b T hb
      exact ⟨by omega, fun h => by omega⟩
  · intro b c' hb
    by_cases hbg : b = g
    · subst hbg
      simp only [if_true] at hb
      cases hb
      exact .inr rfl
    · simp only [if_neg hbg] at hb
      exact .inl hb
  · refine hKK.mono fun b hb hC => ⟨fun e => ?_, fun e => ?_⟩
    · subst e; exact hC (by rw [h.tagM]; rfl)
    · subst e
      rcases hgtag with h1 | ⟨_, h1⟩
      · exact hC (by rw [h1]; rfl)
      · omega
end Go.Proofs
