/- Append to a slice that is nil or the call's own: what it gives, and where it lies. No program is named here. -/
import Derived.WalkKit
import Derived.Test.YtichfebfcapnhaaData
import Derived.OrdersHeld
import Derived.Deep.Onto
import Derived.Deep.QuietTactic
import Derived.BigQuiet
namespace Go.Ink
open Go.RowKit
set_option linter.unusedVariables false
set_option linter.unusedSimpArgs false

/-- t is the type of slices of e; e's size in cells and in bytes -/
def ElemOf (P : Program) (t e : TypeId) (size bytes : Nat) : Prop :=
  P.underlying t = some (.slice e) ∧ 0 < size ∧ bytes ≤ 4096 ∧ ∃ i z, P.info? e = some i ∧ i.zero = some z ∧ i.size = size ∧ i.bytes = bytes ∧ z.cells.size = size
theorem elem_of {P : Program} {t e : TypeId} {z : Value} {size bytes : Nat} (h : P.underlying t = some (.slice e)) (hi : (P.info? e).map (fun i => (i.zero, i.size, i.bytes)) = some (some z, size, bytes)) (hz : z.cells.size = size) (hs : 0 < size) (hb : bytes ≤ 4096) : ElemOf P t e size bytes := by
  obtain ⟨i, h1, h2, h3, h4⟩ := info_parts hi
  exact ⟨h, hs, hb, i, z, h1, h2, h3, h4, hz⟩

theorem alloc_get (w : World) (o : Obj) (k : Nat) : (w.alloc o).heap[k]? = if k = w.heap.size then some o else w.heap[k]? := by
  show (w.heap.push o)[k]? = _
  rw [Array.getElem?_push]

theorem old_cell {w : World} {a : Addr} {v : Value} (h : w.cell? a = some v) (o : Obj) : (w.alloc o).cell? a = some v := (Keep.alloc (fun _ => True) w o).cell h trivial
theorem set_box {w : World} {B t : Nat} {v : Value} {fr : Nat × Nat} (u : Value) (h : w.heap[B]? = some (.cells #[v] t fr)) : (w.setCell ⟨B, 0, none⟩ u).heap[B]? = some (.cells #[u] t fr) := by
  obtain ⟨hlt, hk⟩ := Array.getElem?_eq_some_iff.1 h
  show (w.heap.modify B _)[B]? = _
  rw [Array.getElem?_eq_getElem (by rw [Array.size_modify]; exact hlt), Array.getElem_modify_self, hk]
  rfl

theorem set_at {w : World} {B t : Nat} {cs : Array Value} {fr : Nat × Nat} (i : Nat) (u : Value) (h : w.heap[B]? = some (.cells cs t fr)) : (w.setCell ⟨B, i, none⟩ u).heap[B]? = some (.cells (cs.setIfInBounds i u) t fr) := by
  obtain ⟨hlt, hk⟩ := Array.getElem?_eq_some_iff.1 h
  show (w.heap.modify B _)[B]? = _
  rw [Array.getElem?_eq_getElem (by rw [Array.size_modify]; exact hlt), Array.getElem_modify_self, hk]
  rfl

variable {P : Program}

theorem app {t e : TypeId} {size bytes : Nat} (hE : ElemOf P t e size bytes) (ty : TypeId) {w : World} {base : Nat} {v : Value} {n : Nat} {xs : List Value} (hown : w.ownsRow base e size v n xs)
    (a : Addr) (m c : Nat) (news : List Value) (hl : news.length = m * size) (hnews : ∀ j u, news[j]? = some u → w.cell? (a.add j) = some u) (h1 : ∀ u ∈ news, u.oneCell' = true)
    (hm0 : 0 < m) (hnm : n + m ≤ 8589934592) (hbase : base ≤ w.heap.size) :
    ∃ v' w', (Builtin.append_ #[t, t] ty #[v, .slice (some a) m c]).run P w = .ok v' w' ∧ w'.ownsRow base e size v' (n + m) (xs ++ news) ∧ Keep (fun b => some b ≠ v.ownBlock) w w' ∧
      ∃ g cap, v' = .slice (some ⟨g, 0, none⟩) (n + m) cap ∧ (v.ownBlock = some g ∨ w.heap.size ≤ g) ∧ g < w'.heap.size := by
  obtain ⟨ht, hsz, hby, i, z, hi, hz, hsize, hbytes, hzs⟩ := hE
  subst hsize
  subst hbytes
  have hb47 : (n + m) * i.bytes ≤ 140737488355328 := Nat.le_trans (Nat.mul_le_mul hnm hby) (by decide)
  have h63 : n + m ≤ maxLen := by simp only [maxLen]; omega
  have hlen : (xs ++ news).length = (n + m) * i.size := by rw [List.length_append, hown.1, hl, Nat.add_mul]
  have grown : ∀ (old : Nat), old < n + m → ∀ (row : Option Nat),
      (w.drew.alloc (.cells (xs.toArray ++ news.toArray ++ Builtin.zeroCells z.cells (grownCap w (n + m) old e - (n + m))) e)).ownsRow base e i.size
        (.slice (some ⟨w.heap.size, 0, none⟩) (n + m) (grownCap w (n + m) old e)) (n + m) (xs ++ news) ∧
      w.grownBy (w.drew.alloc (.cells (xs.toArray ++ news.toArray ++ Builtin.zeroCells z.cells (grownCap w (n + m) old e - (n + m))) e)) row := by
    intro old ho row
    have hge := grownCap_ge w (n + m) old e
    have hcm : grownCap w (n + m) old e ≤ maxLen := grownCap_le_maxLen w (n + m) old e h63
    refine ⟨⟨hlen, .inr ⟨w.heap.size, _, _, rfl, hbase, World.alloc_heap_new w.drew _, hge, hcm, ?_, ?_⟩⟩, ⟨rfl, rfl, rfl, by simp, fun k hk _ => Below.heap_alloc w.drew _ k hk⟩⟩
    · simp only [Array.size_append, List.size_toArray, size_zeroCells, hzs, hown.1, hl, ← Nat.add_mul]
      congr 1
      omega
    · simp only [Array.toList_append, List.append_assoc]
      rw [← List.append_assoc, ← hlen]
      exact List.take_left
  rcases hown.2 with ⟨rfl, rfl⟩ | ⟨g, cap, cur, rfl, hbg, hg, hnc, hcm, hcs, htake⟩
  · have hx : xs = [] := List.eq_nil_of_length_eq_zero (by simpa using hown.1)
    subst hx
    have hr := run_append_nil (P := P) w t ty e i z ht hi hz a m c news hl hnews (by omega) (by omega) (by have hb := hb47; simp only [Nat.zero_add] at hb; omega)
    have hgr := grown 0 (by omega) (Value.ownBlock (.slice none 0 0))
    simp only [Nat.zero_add, List.nil_append, Array.empty_append] at hgr ⊢
    exact ⟨_, _, hr, hgr.1, Keep.of_grown hgr.2, _, _, rfl, .inr (Nat.le_refl _), by simp⟩
  · by_cases hroom : n + m ≤ cap
    · have hfit : n * i.size + news.length ≤ cur.size := by rw [hl, hcs, ← Nat.add_mul]; exact Nat.mul_le_mul_right _ hroom
      have hr := run_append_room (P := P) w t ty e i ht hi g n cap cur hg a m c news hl hnews h1 hroom hfit
      have hG : w.grownBy (w.setRow g (cur.toList.take (n * i.size) ++ news ++ cur.toList.drop (n * i.size + news.length)).toArray) (some g) := ⟨rfl, rfl, rfl, by simp, fun k _ hk => setRow_other w g k _ (fun e => hk (by simp [e]))⟩
      refine ⟨_, _, hr, ⟨hlen, .inr ⟨g, cap, _, rfl, hbg, setRow_heap w g cur _ e _ hg, hroom, hcm, ?_, ?_⟩⟩, Keep.of_grown hG, g, cap, rfl, .inl rfl, ?_⟩
      · simp only [List.size_toArray, List.length_append, List.length_take, List.length_drop, Array.length_toList]
        omega
      · rw [htake, ← hlen]
        exact List.take_left
      · exact Nat.lt_of_lt_of_le (heap_lt hg) hG.size
    · have holds : ∀ j u, xs[j]? = some u → w.cell? ((⟨g, 0, none⟩ : Addr).add j) = some u := hown.cells (g := g) rfl
      have hr := run_append_grow (P := P) w t ty e i z ht hi hz ⟨g, 0, none⟩ n cap xs hown.1 holds a m c news hl hnews (by omega) (by omega) (growslice_fits (by omega) hb47)
      have hgr := grown cap (by omega) (Value.ownBlock (.slice (some ⟨g, 0, none⟩) n cap))
      exact ⟨_, _, hr, hgr.1, Keep.of_grown hgr.2, _, _, rfl, .inr (Nat.le_refl _), by simp⟩

/-- 'append(s, x)': the element lies in a block just laid -/
theorem app1 {t e : TypeId} {size bytes : Nat} (hE : ElemOf P t e size bytes) (ty : TypeId) {w : World} {base : Nat} {v : Value} {n : Nat} {xs : List Value} (hown : w.ownsRow base e size v n xs)
    (news : List Value) (hl : news.length = size) (h1 : ∀ u ∈ news, u.oneCell' = true) (hnm : n + 1 ≤ 8589934592) (hbase : base ≤ w.heap.size) :
    ∃ v' w', (Builtin.append_ #[t, t] ty #[v, .slice (some ⟨w.heap.size, 0, none⟩) 1 1]).run P (w.alloc (.cells news.toArray e)) = .ok v' w' ∧ w'.ownsRow base e size v' (n + 1) (xs ++ news) ∧ Keep (fun b => some b ≠ v.ownBlock) w w' ∧
      ∃ g cap, v' = .slice (some ⟨g, 0, none⟩) (n + 1) cap ∧ (v.ownBlock = some g ∨ w.heap.size ≤ g) ∧ g < w'.heap.size := by
  have hk : Keep (fun _ => True) w (w.alloc (.cells news.toArray e)) := Keep.alloc _ _ _
  obtain ⟨v', w', hr, ho, hK, g, cap, hv, hg, hlt⟩ := app hE ty (own_kept hown hk (fun _ _ => trivial)) ⟨w.heap.size, 0, none⟩ 1 1 news (by omega) (fun j u hj => by
      have := cells_of_block (new_block w (.cells news.toArray e)) j u (by simpa using hj)
      simp only [Nat.zero_add] at this
      rw [show ((⟨w.heap.size, 0, none⟩ : Addr).add j) = ⟨w.heap.size, j, none⟩ from by unfold Addr.add; split <;> simp_all]
      exact this) h1 (by omega) hnm (by simp; omega)
  refine ⟨v', w', hr, ho, (hk.mono fun _ _ _ => trivial).trans hK, g, cap, hv, hg.imp id (fun h => ?_), hlt⟩
  simp at h
  omega

/-- an append whose run is known, as the walk meets it (in a fence; outside) -/
theorem gi_app {F : Fence} {n : Nat} {w w' : World} {ops : Array Oper} {rest : List Oper} {o : Oper} {a : Act} {Q : Exit → Act → World → Prop} {v u v' : Value}
    (hg : o.guard = none) (s x : Operand) (t : TypeId) (hop : o.op = Op.call { callee := Callee.builtin Builtin.append, args := #[s, x], argTypes := #[t, t] }) (hs : a.eval s = v) (hx : a.eval x = u)
    (hrun : (Builtin.append_ #[t, t] o.type #[v, u]).run P w = .ok v' w') (hK : wpListIn F n P ops Q rest (a.put o.dst v') w') : wpListIn F n P ops Q (o :: rest) a w := by
  refine wpListIn_plain hg fun K hK' => ?_
  unfold Oper.wpIn
  refine ⟨?_, ?_⟩
  · simp [Oper.about, hop, resolve, Target.leads, Sem.run_pure]
  · rw [Oper.semAt_plain F _ _ (by rw [hop]; intro c hc'; cases hc')]
    simp [execOp, hop, resolve, invoke, builtin, hs, hx, hrun, Result.andThen]
    exact hK' _ _ hK
theorem go_app {w w' : World} {ops : Array Oper} {rest : List Oper} {o : Oper} {a : Act} {Q : Exit → Act → World → Prop} {v u v' : Value}
    (hg : o.guard = none) (s x : Operand) (t : TypeId) (hop : o.op = Op.call { callee := Callee.builtin Builtin.append, args := #[s, x], argTypes := #[t, t] }) (hs : a.eval s = v) (hx : a.eval x = u)
    (hrun : (Builtin.append_ #[t, t] o.type #[v, u]).run P w = .ok v' w') (hK : wpList P ops Q rest (a.put o.dst v') w') : wpList P ops Q (o :: rest) a w := by
  refine wpList_plain hg fun K hK' => ?_
  unfold Oper.wp execOp
  simp only [hop, resolve, invoke, builtin, Sem.run_bind, Sem.run_pure, Result.andThen_ok, List.map_toArray, List.map_cons, List.map_nil, hs, hx, hrun]
  exact hK' _ _ hK

/-- 'append(s, x)' as the walk meets it -/
theorem list_app1 {t e : TypeId} {size bytes : Nat} (hE : ElemOf P t e size bytes) {w : World} {ops : Array Oper} {rest : List Oper} {o : Oper} {a : Act} {Q : Exit → Act → World → Prop}
    (hg : o.guard = none) (s x : Operand) (hop : o.op = Op.call { callee := Callee.builtin Builtin.append, args := #[s, x], argTypes := #[t, t] }) {v : Value} {n base b : Nat} {xs : List Value} (hs : a.eval s = v) (hx : a.eval x = .slice (some ⟨b, 0, none⟩) 1 1)
    (hown : w.ownsRow base e size v n xs) (news : List Value) (hl : news.length = size) (hnews : ∀ j u, news[j]? = some u → w.cell? ⟨b, j, none⟩ = some u) (h1 : ∀ u ∈ news, u.oneCell' = true) (hnm : n + 1 ≤ 8589934592) (hbase : base ≤ w.heap.size)
    (h : ∀ g cap w', w'.ownsRow base e size (.slice (some ⟨g, 0, none⟩) (n + 1) cap) (n + 1) (xs ++ news) → Keep (fun b => some b ≠ v.ownBlock) w w' → (v.ownBlock = some g ∨ w.heap.size ≤ g) → g < w'.heap.size → wpList P ops Q rest (a.put o.dst (.slice (some ⟨g, 0, none⟩) (n + 1) cap)) w') :
    wpList P ops Q (o :: rest) a w := by
  obtain ⟨v', w', hr, ho, hK, g, cap, hv, hgg, hlt⟩ := app hE o.type hown ⟨b, 0, none⟩ 1 1 news (by omega) (fun j u hj => by
      rw [show ((⟨b, 0, none⟩ : Addr).add j) = ⟨b, j, none⟩ from by unfold Addr.add; split <;> simp_all]
      exact hnews j u hj) h1 (by omega) hnm hbase
  subst hv
  exact go_app hg s x t hop hs hx hr (h g cap w' ho hK hgg hlt)

/-- 'append(s, x)' in a region that draws its order -/
theorem step_app1 {t e : TypeId} {size bytes : Nat} (hE : ElemOf P t e size bytes) {w : World} {ops : Array Oper} {o : Oper} {a : Act} {K : Act → World → Prop} {Q : Exit → Act → World → Prop} {E : Prop}
    (hg : o.guard = none) (s x : Operand) (hop : o.op = Op.call { callee := Callee.builtin Builtin.append, args := #[s, x], argTypes := #[t, t] }) {v : Value} {n base b : Nat} {xs : List Value} (hs : a.eval s = v) (hx : a.eval x = .slice (some ⟨b, 0, none⟩) 1 1)
    (hown : w.ownsRow base e size v n xs) (news : List Value) (hl : news.length = size) (hnews : ∀ j u, news[j]? = some u → w.cell? ⟨b, j, none⟩ = some u) (h1 : ∀ u ∈ news, u.oneCell' = true) (hnm : n + 1 ≤ 8589934592) (hbase : base ≤ w.heap.size)
    (h : ∀ g cap w', w'.ownsRow base e size (.slice (some ⟨g, 0, none⟩) (n + 1) cap) (n + 1) (xs ++ news) → Keep (fun b => some b ≠ v.ownBlock) w w' → (v.ownBlock = some g ∨ w.heap.size ≤ g) → g < w'.heap.size → K (a.put o.dst (.slice (some ⟨g, 0, none⟩) (n + 1) cap)) w') :
    if Region.wanted o (yielded ops a.tmps) = true then Oper.wp P o a w K Q else E := by
  have hw : Region.wanted o (yielded ops a.tmps) = true := by simp [Region.wanted, hg]
  rw [if_pos hw]
  obtain ⟨v', w', hr, ho, hK, g, cap, hv, hgg, hlt⟩ := app hE o.type hown ⟨b, 0, none⟩ 1 1 news (by omega) (fun j u hj => by
      rw [show ((⟨b, 0, none⟩ : Addr).add j) = ⟨b, j, none⟩ from by unfold Addr.add; split <;> simp_all]
      exact hnews j u hj) h1 (by omega) hnm hbase
  subst hv
  unfold Oper.wp execOp
  simp only [hop, resolve, invoke, builtin, Sem.run_bind, Sem.run_pure, Result.andThen_ok, List.map_toArray, List.map_cons, List.map_nil, hs, hx, hr]
  exact h g cap w' ho hK hgg hlt

end Go.Ink

/- A region that draws its order: what only looks at memory is taken first, then the rest in its forced order. What is asked of the world (S) need hold no longer than something is still to be taken first. No program is named here. -/
namespace Go.Ink
open Go.RowKit
set_option linter.unusedVariables false
set_option linter.unusedSimpArgs false
section
variable {P : Program} {ops : Array Oper} {Q : Exit → Act → World → Prop} {md : Region.Mode} {S : World → Prop} {late : List Nat}

/-- Whatever order is picked from here on; behind each operation that is not late S holds. -/
def wpAnyL (P : Program) (md : Region.Mode) (ops : Array Oper) (Q : Exit → Act → World → Prop) (S : World → Prop) (late : List Nat) : Nat → Array Bool → Act → World → Prop
  | 0, listed, a, w => Region.ready md ops listed = [] ∧ Q .normal a w
  | fuel + 1, listed, a, w =>
    (Region.ready md ops listed = [] → Q .normal a w) ∧
    ∀ i ∈ Region.ready md ops listed, wpOp P ops Q i (fun a' w' => (late.contains i = false → S w') ∧ wpAnyL P md ops Q S late fuel (listed.setIfInBounds i true) a' w') a w

theorem wpAny_of_L : ∀ (fuel : Nat) (listed : Array Bool) (a : Act) (w : World), wpAnyL P md ops Q S late fuel listed a w → wpAny P md ops Q fuel listed a w
  | 0, _, _, _, h => h
  | fuel + 1, _, _, _, h => ⟨h.1, fun i hi => wpOp_mono (fun a' w' h' => wpAny_of_L fuel _ a' w' h'.2) (h.2 i hi)⟩

/-- the late ones all wait for operation i -/
def lateWaits (md : Region.Mode) (ops : Array Oper) (late : List Nat) (i : Nat) : Bool :=
  late.all fun j => match ops[j]? with
    | some oj => oj.after.any fun e => Region.binds md e && e.on == i
    | none => false

theorem wpAnyL_first {i : Nat} {oi : Oper} {v : Value} (hi : ops[i]? = some oi) (hsel : ∀ (j : Nat) (o : Oper) cs b, ops[j]? = some o → o.op ≠ .select cs b)
    (hQ : ∀ c a w, Q (.panic c) (a.put oi.dst v) w → Q (.panic c) a w) (hlate : lateWaits md ops late i = true) :
    ∀ (fuel : Nat) (listed : Array Bool) (a : Act) (w : World),
      (∀ j oj, ops[j]? = some oj → j ≠ i → listed.getD j true = false → (∀ e ∈ oj.after, Region.binds md e = true → e.on ≠ i) → oi.apart ops oj = true) →
      i ∈ Region.ready md ops listed → YieldsIf P ops S oi v a → S w →
      wpAnyL P md ops Q S late fuel (listed.setIfInBounds i true) (a.put oi.dst v) w → wpAnyL P md ops Q S late (fuel + 1) listed a w := by
  intro fuel
  induction fuel with
  | zero =>
    intro listed a w _ hr hy hS H
    refine ⟨fun h => (by rw [h] at hr; cases hr), fun j hj => ?_⟩
    by_cases hji : j = i
    · subst hji; exact hy.wpOp hi hS ⟨fun _ => hS, H⟩
    · have := ready_mono hj hji
      rw [H.1] at this
      cases this
  | succ fuel ih =>
    intro listed a w hfree hr hy hS H
    refine ⟨fun h => (by rw [h] at hr; cases hr), fun j hj => ?_⟩
    by_cases hji : j = i
    · subst hji; exact hy.wpOp hi hS ⟨fun _ => hS, H⟩
    · have h1 := H.2 j (ready_mono hj hji)
      obtain ⟨hjun, oj, hoj, hall⟩ := mem_ready.1 hj
      have hnot : ∀ e ∈ oj.after, Region.binds md e = true → e.on ≠ i := fun e he hb heq => by
        have h1 := hall e he hb
        have h0 := (mem_ready.1 hr).1
        rw [heq] at h1
        rcases Nat.lt_or_ge i listed.size with h' | h'
        · simp [h'] at h0 h1; rw [h0] at h1; cases h1
        · simp [Array.getElem?_eq_none h'] at h1
      have hnl : late.contains j = false := by
        cases hc : late.contains j with
        | false => rfl
        | true =>
          have hm : j ∈ late := by simpa using hc
          have := List.all_eq_true.1 hlate j hm
          rw [hoj] at this
          simp only at this
          obtain ⟨e, he, hb⟩ := Array.any_eq_true'.1 this
          simp only [Bool.and_eq_true, beq_iff_eq] at hb
          exact absurd hb.2 (hnot e he hb.1)
      have h2 := wpOp_putIf hoj (hfree j oj hoj hji hjun hnot) (fun cs b => hsel i oi cs b hi) (fun cs b => hsel j oj cs b hoj) hQ hy h1
      have hfree' : ∀ k ok, ops[k]? = some ok → k ≠ i → (listed.setIfInBounds j true).getD k true = false →
          (∀ e ∈ ok.after, Region.binds md e = true → e.on ≠ i) → oi.apart ops ok = true := fun k ok hk hki hun hno => by
        refine hfree k ok hk hki ?_ hno
        by_cases hjk : j = k
        · subst hjk; exact hjun
        · rw [getD_set_ne true hjk] at hun; exact hun
      refine wpOp_mono (fun a' w' h3 => ⟨h3.2.1, ih (listed.setIfInBounds j true) a' w' hfree' (ready_mono hr (Ne.symm hji)) h3.1 (h3.2.1 hnl) ?_⟩) h2
      rw [Array.setIfInBounds_comm _ _ hji]
      exact h3.2.2

/-- Take number i first. -/
theorem hoist_take {i : Nat} {oi : Oper} {v : Value} {fuel : Nat} {listed : Array Bool} {a : Act} {w : World} (hi : ops[i]? = some oi)
    (hs : Region.noSelect ops = true) (hf : Region.free md ops listed i = true) (hr : (Region.ready md ops listed).contains i = true) (hl : lateWaits md ops late i = true)
    (hQ : ∀ c a w, Q (.panic c) (a.put oi.dst v) w → Q (.panic c) a w) (hS : S w) (hy : YieldsIf P ops S oi v a)
    (h : wpAnyL P md ops Q S late fuel (listed.setIfInBounds i true) (a.put oi.dst v) w) : wpAnyL P md ops Q S late (fuel + 1) listed a w :=
  wpAnyL_first hi (Region.noSelect_spec hs) hQ hl fuel listed a w (Region.free_spec hi hf) (by simpa using hr) hy hS h

/-- Number i alone may come up. -/
theorem hoist_one {i : Nat} {oi : Oper} {fuel : Nat} {listed : Array Bool} {a : Act} {w : World} (hi : ops[i]? = some oi) (hr : Region.ready md ops listed = [i])
    (h : ∀ K : Act → World → Prop, (∀ a' w', (late.contains i = false → S w') → wpAnyL P md ops Q S late fuel (listed.setIfInBounds i true) a' w' → K a' w') → wpList P ops (Exit.then K Q) [oi] a w) :
    wpAnyL P md ops Q S late (fuel + 1) listed a w := by
  refine ⟨fun h0 => (by rw [hr] at h0; cases h0), fun j hj => ?_⟩
  rw [hr] at hj
  have hji : j = i := by simpa using hj
  subst hji
  have h1 := h (fun a' w' => (late.contains j = false → S w') ∧ wpAnyL P md ops Q S late fuel (listed.setIfInBounds j true) a' w') (fun a' w' x y => ⟨x, y⟩)
  unfold wpOp
  rw [hi]
  unfold wpList at h1
  simp only at h1 ⊢
  split
  · rename_i hw
    rw [if_pos hw] at h1
    rcases h1 with h1 | h1
    · refine .inl ?_
      unfold Oper.wp at h1 ⊢
      generalize (execOp a.eval oi).run P w = r at h1 ⊢
      cases r with
      | ok n w' =>
        cases n <;> simp only [Oper.upon] at h1 ⊢
        case value u => exact h1
        case skip => exact h1
        case defer d => exact h1
        case enter f args => exact Calls.mono h1 fun e w'' he => by cases e <;> exact he
        case row row args => exact Rows.mono h1 fun u w'' he => he
      | halt x w' => cases x <;> simp only [Oper.upon] at h1 ⊢; exact h1
    · exact .inr h1
  · rename_i hw
    rw [if_neg hw] at h1
    exact h1

theorem hoist_done {fuel : Nat} {listed : Array Bool} {a : Act} {w : World} (hr : Region.ready md ops listed = []) (h : Q .normal a w) : wpAnyL P md ops Q S late fuel listed a w := by
  cases fuel with
  | zero => exact ⟨hr, h⟩
  | succ n => exact ⟨fun _ => h, fun i hi => (by rw [hr] at hi; cases hi)⟩

theorem region_hoist {id : Nat} {a : Act} {w : World} (hm : P.follows .mixedOrders = true) (S : World → Prop) (late : List Nat)
    (h : wpAnyL P .any ops Q S late ops.size (Array.replicate ops.size false) a w.drew) : (Code.region id ops true).wp P Q a w :=
  wp_region_any hm (wpAny_of_L _ _ _ _ h)
end
end Go.Ink

/- A region that draws its order, where two operations may come up. No program is named here. -/
namespace Go.Ink
open Go.RowKit
set_option linter.unusedVariables false
set_option linter.unusedSimpArgs false
section
variable {P : Program} {ops : Array Oper} {Q : Exit → Act → World → Prop} {md : Region.Mode} {S : World → Prop} {late : List Nat}

theorem wpOp_of_list {i : Nat} {oi : Oper} {a : Act} {w : World} {K : Act → World → Prop} (hi : ops[i]? = some oi) (h1 : wpList P ops (Exit.then K Q) [oi] a w) : wpOp P ops Q i K a w := by
  unfold wpOp
  rw [hi]
  unfold wpList at h1
  simp only at h1 ⊢
  split
  · rename_i hw
    rw [if_pos hw] at h1
    rcases h1 with h1 | h1
    · refine .inl ?_
      unfold Oper.wp at h1 ⊢
      generalize (execOp a.eval oi).run P w = r at h1 ⊢
      cases r with
      | ok n w' =>
        cases n <;> simp only [Oper.upon] at h1 ⊢
        case value u => exact h1
        case skip => exact h1
        case defer d => exact h1
        case enter f args => exact Calls.mono h1 fun e w'' he => by cases e <;> exact he
        case row row args => exact Rows.mono h1 fun u w'' he => he
      | halt x w' => cases x <;> simp only [Oper.upon] at h1 ⊢; exact h1
    · exact .inr h1
  · rename_i hw
    rw [if_neg hw] at h1
    exact h1

/-- Numbers i and j alone may come up: two ways. -/
theorem hoist_two {i j : Nat} {oi oj : Oper} {fuel : Nat} {listed : Array Bool} {a : Act} {w : World} (hi : ops[i]? = some oi) (hj : ops[j]? = some oj) (hr : Region.ready md ops listed = [i, j])
    (h1 : ∀ K : Act → World → Prop, (∀ a' w', (late.contains i = false → S w') → wpAnyL P md ops Q S late fuel (listed.setIfInBounds i true) a' w' → K a' w') → wpList P ops (Exit.then K Q) [oi] a w)
    (h2 : ∀ K : Act → World → Prop, (∀ a' w', (late.contains j = false → S w') → wpAnyL P md ops Q S late fuel (listed.setIfInBounds j true) a' w' → K a' w') → wpList P ops (Exit.then K Q) [oj] a w) :
    wpAnyL P md ops Q S late (fuel + 1) listed a w := by
  refine ⟨fun h0 => (by rw [hr] at h0; cases h0), fun k hk => ?_⟩
  rw [hr] at hk
  rcases List.mem_cons.1 hk with rfl | hk
  · exact wpOp_of_list hi (h1 (fun a' w' => (late.contains k = false → S w') ∧ wpAnyL P md ops Q S late fuel (listed.setIfInBounds k true) a' w') (fun a' w' x y => ⟨x, y⟩))
  · rcases List.mem_cons.1 hk with rfl | hk
    · exact wpOp_of_list hj (h2 (fun a' w' => (late.contains k = false → S w') ∧ wpAnyL P md ops Q S late fuel (listed.setIfInBounds k true) a' w') (fun a' w' x y => ⟨x, y⟩))
    · cases hk
end
end Go.Ink

/- Rows of a slice's own: copies with marks, cells. No program is named here. (For seats that do without Copy.) -/
namespace Go.Proofs
open Go.RowKit Go.Ink
set_option linter.unusedVariables false
set_option linter.unusedSimpArgs false

/-- append of nothing to nil -/
theorem run_append_nothing {P : Program} {t e : TypeId} {size bytes : Nat} (hE : ElemOf P t e size bytes) (ty : TypeId) (w : World) (a : Option Addr) (c : Nat) :
    (Builtin.append_ #[t, t] ty #[.slice none 0 0, .slice a 0 c]).run P w = .ok (.slice none 0 0) w := by
  obtain ⟨ht, hsz, hby, i, z, hi, hz, hsize, hbytes, hzs⟩ := hE
  cases a <;> simp [Builtin.append_, run_underlying ht, sizeOf, typeInfo, hi, Builtin.lenOf, Builtin.firstCells, loadCells, loadCellsFrom]

/-- 'append([]T(nil), x...)' -/
theorem app_copy {P : Program} {t e : TypeId} {size bytes : Nat} (hE : ElemOf P t e size bytes) (ty : TypeId) (w : World) (a : Option Addr) (m c : Nat) (news : List Value) (hl : news.length = m * size)
    (hnews : ∀ b, a = some b → ∀ j u, news[j]? = some u → w.cell? (b.add j) = some u) (hn : a = none → m = 0) (h1 : ∀ u ∈ news, u.oneCell' = true) (hm : m ≤ 1073741824) :
    ∃ v' w', (Builtin.append_ #[t, t] ty #[.slice none 0 0, .slice a m c]).run P w = .ok v' w' ∧ w'.ownsRow w.heap.size e size v' m news ∧ Keep (fun _ => True) w w' := by
  by_cases h0 : m = 0
  · subst h0
    have : news = [] := List.eq_nil_of_length_eq_zero (by simpa using hl)
    subst this
    exact ⟨_, _, run_append_nothing hE ty w a c, World.ownsRow_nil _ _ _ _, Keep.refl _ _⟩
  · cases a with
    | none => exact absurd (hn rfl) h0
    | some b =>
      obtain ⟨v', w', hr, ho, hK, g, cap, hv, hg, hlt⟩ := app hE ty (World.ownsRow_nil w w.heap.size e size) b m c news hl (hnews b rfl) h1 (by omega) (by omega) (Nat.le_refl _)
      exact ⟨v', w', hr, by simpa using ho, hK.mono (fun k _ _ => by simp [Value.ownBlock])⟩

/-- blocks that are no row of the slice's own -/
theorem own_not {w : World} {base : Nat} {e : TypeId} {sz : Nat} {v : Value} {n : Nat} {xs : List Value} (h : w.ownsRow base e sz v n xs) {b : Nat} (hb : b < base) : some b ≠ v.ownBlock := fun he => by
  have := (World.ownsRow.lt h b he.symm).1; omega

/-- what a row holds, by elements -/
theorem own_elem {w : World} {base : Nat} {e : TypeId} {sz g n cap : Nat} {xs : List Value} (h : w.ownsRow base e sz (.slice (some ⟨g, 0, none⟩) n cap) n xs) (j : Nat) (u : Value) (hu : xs[j]? = some u) : w.cell? ⟨g, j, none⟩ = some u := by
  have := h.cells (g := g) rfl j u hu
  rwa [show ((⟨g, 0, none⟩ : Addr).add j) = ⟨g, j, none⟩ from by unfold Addr.add; split <;> simp_all] at this

theorem own_cap {w : World} {base : Nat} {e : TypeId} {sz g n cap : Nat} {xs : List Value} (h : w.ownsRow base e sz (.slice (some ⟨g, 0, none⟩) n cap) n xs) : n ≤ cap ∧ cap ≤ maxLen ∧ g < w.heap.size ∧ base ≤ g := by
  rcases h.2 with ⟨h, _⟩ | ⟨g', c, cur, h, hb, hg, hnc, hc, _⟩
  · cases h
  · cases h; exact ⟨hnc, hc, heap_lt hg, hb⟩

theorem own_form {w : World} {base : Nat} {e : TypeId} {sz : Nat} {v : Value} {n : Nat} {xs : List Value} (h : w.ownsRow base e sz v n xs) : ∃ a c, v = .slice a n c := by
  rcases h.2 with ⟨h1, h2⟩ | ⟨g, c, _, h1, _⟩
  · exact ⟨none, 0, by rw [h1, h2]⟩
  · exact ⟨_, c, h1⟩

theorem own_base2 {w : World} {base base' : Nat} {e : TypeId} {sz : Nat} {v : Value} {n : Nat} {xs : List Value} (h : w.ownsRow base e sz v n xs) (hb : base' ≤ base) : w.ownsRow base' e sz v n xs := h.mono hb

/-- the cells of a slice, one after the other -/
theorem slice_cells {α : Type} {n : Nat} {w : World} {sz : Nat} {E : World → Nat → Nat → α → Prop} (cells : α → List Value) (hs : ∀ x, (cells x).length = sz) (hsz : 0 < sz) (hE : ∀ b o x, E w b o x → CellsE w b o (cells x)) {v : Value} {xs : List α} {a : Option Addr} {c : Nat} (h : SliceIn n w sz E v xs) (hv : v = .slice a xs.length c) :
    (∀ b, a = some b → ∀ j u, (xs.flatMap cells)[j]? = some u → w.cell? (b.add j) = some u) ∧ (a = none → xs.length = 0) := by
  obtain ⟨a', cap, hv', hl, hc, he⟩ := h
  rw [hv] at hv'
  cases hv'
  refine ⟨fun b hb j u hj => ?_, fun ha => ?_⟩
  · have hlt := (List.getElem?_eq_some_iff.1 hj).1
    rw [flatMap_len cells sz hs] at hlt
    have hq : j / sz < xs.length := Nat.div_lt_of_lt_mul (by rw [Nat.mul_comm]; exact hlt)
    have hr : j % sz < sz := Nat.mod_lt _ hsz
    obtain ⟨b', off, ha, hb', e⟩ := he (j / sz) (xs[j / sz]) (List.getElem?_eq_getElem hq)
    rw [hb] at ha
    cases ha
    have hk := flatMap_at cells sz hs xs (j / sz) (j % sz) _ (List.getElem?_eq_getElem hq) hr
    rw [show j / sz * sz + j % sz = j from by rw [Nat.mul_comm]; exact Nat.div_add_mod j sz] at hk
    rw [hk] at hj
    have := hE _ _ _ e (j % sz) u hj
    rw [show ((⟨b', off, none⟩ : Addr).add j) = ⟨b', off + j, none⟩ from by unfold Addr.add; split <;> simp_all]
    rwa [Nat.add_assoc, show j / sz * sz + j % sz = j from by rw [Nat.mul_comm]; exact Nat.div_add_mod j sz] at this
  · by_cases h0 : xs.length = 0
    · exact h0
    · obtain ⟨b, off, hb, _⟩ := he 0 xs[0] (List.getElem?_eq_getElem (by omega))
      rw [ha] at hb; cases hb

/-- 'append(append([]T(nil), x...), m, m)' -/
theorem copy_row {P : Program} {t e : TypeId} {size bytes : Nat} (hE : ElemOf P t e size bytes) (ty : TypeId) (w : World) (a : Option Addr) (m c : Nat) (news mk : List Value) (hl : news.length = m * size)
    (hnews : ∀ b, a = some b → ∀ j u, news[j]? = some u → w.cell? (b.add j) = some u) (hn : a = none → m = 0) (h1 : ∀ u ∈ news, u.oneCell' = true) (hm : m ≤ 1073741824) (hmk : mk.length = 2 * size) (hmk1 : ∀ u ∈ mk, u.oneCell' = true) :
    ∃ v1 W1 g cap W2, (Builtin.append_ #[t, t] ty #[.slice none 0 0, .slice a m c]).run P w = .ok v1 W1 ∧ (Builtin.append_ #[t, t] ty #[v1, .slice (some ⟨W1.heap.size, 0, none⟩) 2 2]).run P (W1.alloc (.cells mk.toArray e)) = .ok (.slice (some ⟨g, 0, none⟩) (m + 2) cap) W2 ∧
      W2.ownsRow w.heap.size e size (.slice (some ⟨g, 0, none⟩) (m + 2) cap) (m + 2) (news ++ mk) ∧ Keep (fun k => k < w.heap.size) w W2 ∧ w.heap.size ≤ W1.heap.size := by
  obtain ⟨v1, W1, hr1, ho1, hk1⟩ := app_copy hE ty w a m c news hl hnews hn h1 hm
  obtain ⟨v2, W2, hr2, ho2, hk2, g2, cap2, hv2, hg2, hl2⟩ := app hE ty (w := W1.alloc (.cells mk.toArray e)) (own_kept ho1 (Keep.alloc (fun _ => True) _ _) (fun _ _ => trivial)) ⟨W1.heap.size, 0, none⟩ 2 2 mk hmk
    (fun j u hj => by
      have := cells_of_block (new_block W1 (.cells mk.toArray e)) j u (by simpa using hj)
      simp only [Nat.zero_add] at this
      rw [show ((⟨W1.heap.size, 0, none⟩ : Addr).add j) = ⟨W1.heap.size, j, none⟩ from by unfold Addr.add; split <;> simp_all]
      exact this) hmk1 (by omega) (by omega) (by have := hk1.size; simp; omega)
  subst hv2
  exact ⟨v1, W1, g2, cap2, W2, hr1, hr2, ho2, ((hk1.mono fun _ _ _ => trivial).trans (Keep.alloc _ _ _)).trans (hk2.mono fun b _ h => own_not ho1 h), hk1.size⟩

theorem flat_one {α : Type} (cells : α → List Value) (h : ∀ x, ∀ u ∈ cells x, u.oneCell' = true) (xs : List α) : ∀ u ∈ xs.flatMap cells, u.oneCell' = true := by
  intro u hu
  obtain ⟨x, _, hx⟩ := List.mem_flatMap.1 hu
  exact h x u hx

/-- a copied row: the slice, and the whole row with its marks -/
def CopiedRow (base : Nat) (e : TypeId) (sz : Nat) (w : World) (v : Value) (m : Nat) (xs : List Value) : Prop := ∃ g cap, v = .slice (some ⟨g, 0, none⟩) m cap ∧ w.ownsRow base e sz (.slice (some ⟨g, 0, none⟩) (m + 2) cap) (m + 2) xs

theorem CopiedRow.keep {base : Nat} {e : TypeId} {sz : Nat} {w w' : World} {v : Value} {m : Nat} {xs : List Value} {C : Nat → Prop} (h : CopiedRow base e sz w v m xs) (hK : Keep C w w') (hC : ∀ b, base ≤ b → b < w.heap.size → C b) : CopiedRow base e sz w' v m xs := by
  obtain ⟨g, cap, rfl, h⟩ := h
  exact ⟨g, cap, rfl, own_kept h hK (fun b hb => by have := World.ownsRow.lt h b hb; exact hC b this.1 this.2)⟩

theorem CopiedRow.mono {base base' : Nat} {e : TypeId} {sz : Nat} {w : World} {v : Value} {m : Nat} {xs : List Value} (h : CopiedRow base e sz w v m xs) (hb : base' ≤ base) : CopiedRow base' e sz w v m xs := by
  obtain ⟨g, cap, rfl, h⟩ := h
  exact ⟨g, cap, rfl, h.mono hb⟩

theorem CopiedRow.slice {α : Type} {base sz : Nat} {e : TypeId} {w : World} {v : Value} {xs : List α} (cells : α → List Value) (hs : ∀ x, (cells x).length = sz) {mk : List Value} {E : World → Nat → Nat → α → Prop} (hE : ∀ b o x, x ∈ xs → CellsE w b o (cells x) → E w b o x)
    (h : CopiedRow base e sz w v xs.length (xs.flatMap cells ++ mk)) (hl : xs.length ≤ 1073741824) : SliceIn w.heap.size w sz E v xs := by
  obtain ⟨g, cap, rfl, ho⟩ := h
  have hc := own_cap ho
  refine ⟨_, cap, rfl, hl, ⟨by omega, hc.2.1⟩, fun k x hx => ⟨g, 0, rfl, hc.2.2.1, hE _ _ _ (List.mem_of_getElem? hx) fun j u hj => ?_⟩⟩
  have hj7 : j < sz := by rw [← hs x]; exact (List.getElem?_eq_some_iff.1 hj).1
  have h1 := flatMap_at cells sz hs xs k j x hx hj7
  have h2 : (xs.flatMap cells ++ mk)[k * sz + j]? = some u := by
    rw [← hj, ← h1]
    refine List.getElem?_append_left ?_
    have h3 : (xs.flatMap cells)[k * sz + j]? = some u := by rw [h1, hj]
    exact (List.getElem?_eq_some_iff.1 h3).1
  have := own_elem ho _ _ h2
  rw [Nat.zero_add]
  exact this

theorem Keep.drewN' (C : Nat → Prop) (w : World) (n : Nat) : Keep C w (w.drewN n) := ⟨rfl, rfl, rfl, Nat.le_refl _, fun _ _ _ => rfl⟩

theorem eq_at {α : Type} [DecidableEq α] {xs ys : List α} (hl : xs.length = ys.length) (h : ∀ j, j < xs.length → xs[j]? = ys[j]?) : xs = ys := by
  refine List.ext_getElem? fun j => ?_
  rcases Nat.lt_or_ge j xs.length with hj | hj
  · exact h j hj
  · rw [List.getElem?_eq_none hj, List.getElem?_eq_none (by omega)]

theorem list_abs {P : Program} {ops : Array Oper} {Q : Exit → Act → World → Prop} {l : List Oper} {a : Act} {w : World} (G : World → Prop) (h : G w) (k : ∀ W, G W → wpList P ops Q l a W) : wpList P ops Q l a w := k w h

theorem Calls_abs2 {P : Program} {f : FuncId} {args : Array Value} {R : Ending → World → Prop} {w : World} (G : World → Prop) (h : G w) (k : ∀ W, G W → Calls P f args W R) : Calls P f args w R := k w h
end Go.Proofs
