/- Layer 4, the program's relation: whole (a tuple as a key). -/
import Derived.Test.YtbaemcmagkmjiaaProg
import Derived.Test.YtbaemcmagkmjiaaRelGToRelH
import Derived.Laws.CopyRow
import Derived.WideKeyEntry
import Derived.Test.YtbaemcmagkmjiaaMapsToRelA
import Derived.Test.YtbaemcmagkmjiaaOwnToRowC
namespace Go.Proofs
open Go.RowKit Go.Ink
set_option linter.unusedVariables false
set_option linter.unusedSimpArgs false
attribute [local go_sem] Oper.semAt_some

/-- a tuple filled up to sixteen numbers -/
def padK (t : List Int) : List Int := t ++ List.replicate (16 - t.length) 0
def keyV (l : List Int) : Value := .agg (l.map (.int .i64)).toArray
theorem padK_len {t : List Int} (h : t.length ≤ 16) : (padK t).length = 16 := by simp [padK]; omega
theorem pad_inj {s t : List Int} (h : padK s = padK t) (hl : s.length = t.length) : s = t := by
  unfold padK at h
  exact (List.append_inj h hl).1
theorem keyV_inj : ∀ a b : List Int, keyV a = keyV b → a = b := by
  intro a b h
  unfold keyV at h
  injection h with h
  have h2 : a.map (Value.int .i64) = b.map (.int .i64) := by simpa using congrArg Array.toList h
  clear h
  induction a generalizing b with
  | nil => cases b with
    | nil => rfl
    | cons y b => simp at h2
  | cons x a ih => cases b with
    | nil => simp at h2
    | cons y b =>
      simp only [List.map_cons, List.cons.injEq, Value.int.injEq, true_and] at h2
      rw [h2.1, ih b h2.2]

/-- stores of one cell after another -/
def chain (b : Nat) : List Value → Nat → World → World
  | [], _, w => w
  | v :: vs, i, w => chain b vs (i + 1) (w.setCell ⟨b, i, none⟩ v)
theorem chain_heap {b t : Nat} {fr : Nat × Nat} : ∀ (vs : List Value) (i : Nat) (w : World) (cs : Array Value), w.heap[b]? = some (.cells cs t fr) → i + vs.length = cs.size → (chain b vs i w).heap[b]? = some (.cells (cs.toList.take i ++ vs).toArray t fr)
  | [], i, w, cs, h, hl => by
    have : i = cs.size := by simpa using hl
    subst this
    rw [chain, h, List.append_nil]
    rw [List.take_of_length_le (by simp)]
  | v :: vs, i, w, cs, h, hl => by
    have hl2 : i + 1 + vs.length = cs.size := by simp at hl; omega
    have := chain_heap vs (i + 1) (w.setCell ⟨b, i, none⟩ v) _ (set_at i v h) (by simpa using hl2)
    rw [chain, this]
    have hi : i < cs.toList.length := by simp; omega
    simp only [Array.toList_setIfInBounds, List.take_add_one, List.take_set_of_le (Nat.le_refl i), List.getElem?_set_self hi, Option.toList_some, List.append_assoc, List.singleton_append]
theorem chain_full {b t : Nat} {fr : Nat × Nat} {w : World} {cs : Array Value} (vs : List Value) (h : w.heap[b]? = some (.cells cs t fr)) (hl : vs.length = cs.size) : (chain b vs 0 w).heap[b]? = some (.cells vs.toArray t fr) := by
  have := chain_heap vs 0 w cs h (by omega)
  simpa using this
theorem chain_keep (b : Nat) : ∀ (vs : List Value) (i : Nat) (w : World), Keep (fun j => j ≠ b) w (chain b vs i w)
  | [], _, _ => Keep.refl _ _
  | v :: vs, i, w => (Keep.setCell _ _ _ (by simp)).trans (chain_keep b vs (i + 1) _)

set_option maxRecDepth 100000 in
set_option maxHeartbeats 4000000 in
theorem whole_any (n : Nat) (v : Value) (t : List Int) (w : World) (hs : IntsIn n w v t) (hn : n ≤ w.heap.size) (hl : t.length ≤ 16) :
    Calls Try.prog 41 #[v] w fun e w' => e = .returned (keyV (padK t)) ∧ Keep (fun k => k < w.heap.size) w w' := by
  obtain ⟨a, c, rfl, hlt, hct, het⟩ := id hs
  obtain ⟨W0, hW0⟩ : ∃ W0, (w.alloc (.cells #[.int .i64 0, .int .i64 0, .int .i64 0, .int .i64 0, .int .i64 0, .int .i64 0, .int .i64 0, .int .i64 0, .int .i64 0, .int .i64 0, .int .i64 0, .int .i64 0, .int .i64 0, .int .i64 0, .int .i64 0, .int .i64 0] 81)).alloc (.cells #[.int .i64 0, .int .i64 0, .int .i64 0, .int .i64 0, .int .i64 0, .int .i64 0, .int .i64 0, .int .i64 0, .int .i64 0, .int .i64 0, .int .i64 0, .int .i64 0, .int .i64 0, .int .i64 0, .int .i64 0, .int .i64 0] 81) = W0 := ⟨_, rfl⟩
  have k0' : Keep (fun _ => True) w W0 := by rw [← hW0]; exact (Keep.alloc _ _ _).trans (Keep.alloc _ _ _)
  have s0 : W0.heap.size = w.heap.size + 1 + 1 := by rw [← hW0]; simp
  have n1 : W0.heap[w.heap.size]? = some (.cells #[.int .i64 0, .int .i64 0, .int .i64 0, .int .i64 0, .int .i64 0, .int .i64 0, .int .i64 0, .int .i64 0, .int .i64 0, .int .i64 0, .int .i64 0, .int .i64 0, .int .i64 0, .int .i64 0, .int .i64 0, .int .i64 0] 81 (0, 0)) := by rw [← hW0]; exact old_block (new_block _ _) _
  have n2 : W0.heap[w.heap.size + 1]? = some (.cells #[.int .i64 0, .int .i64 0, .int .i64 0, .int .i64 0, .int .i64 0, .int .i64 0, .int .i64 0, .int .i64 0, .int .i64 0, .int .i64 0, .int .i64 0, .int .i64 0, .int .i64 0, .int .i64 0, .int .i64 0, .int .i64 0] 81 (0, 0)) := by rw [← hW0]; simp only [alloc_get, World.size_alloc]; simp
  have hs0 := ints_stay hs (m := n) (k0'.mono fun _ _ _ => trivial) (Nat.le_refl _)
  have hcl := slice_cells (sz := 1) ic (fun _ => rfl) (by omega) (E := IntE) (fun b o x h j u hj => by
    have hj0 : j = 0 := by have := (List.getElem?_eq_some_iff.1 hj).1; simp [ic] at this; exact this
    subst hj0
    simp [ic] at hj
    subst hj
    exact h) hs0 rfl
  have hinfo : (Try.prog.info? 3).map (·.size) = some 1 := by kernel_rfl
  have hcopy : ∃ r W1, (Builtin.copy_ #[23, 23] 3 #[.slice (some ⟨w.heap.size + 1, 0, none⟩) 16 16, .slice a t.length c]).run Try.prog W0 = .ok r W1 ∧ W1.heap[w.heap.size + 1]? = some (.cells ((padK t).map (.int .i64)).toArray 81 (0, 0)) ∧ Keep (fun b => b ≠ w.heap.size + 1) W0 W1 ∧ W1.heap.size = W0.heap.size := by
    cases a with
    | none =>
      have ht : t = [] := List.eq_nil_of_length_eq_zero (hcl.2 rfl)
      subst ht
      exact ⟨_, _, run_copy_none W0 _ _ _ _ _ _ _ _ _ _ Try.underlying23 hinfo (by simp), n2, Keep.refl _ _, rfl⟩
    | some ad =>
      have hcs := hcl.1 ad rfl
      rw [ic_map] at hcs
      have hr := run_copy_row (P := Try.prog) W0 23 23 3 3 (w.heap.size + 1) 0 16 16 ad t.length c _ _ (t.map (.int .i64)) Try.underlying23 hinfo n2 (by rw [List.length_map]; exact (Nat.min_eq_left hl).symm) hcs (by simp; omega) (by simp [Value.oneCell'])
      refine ⟨_, _, hr, ?_, ?_, ?_⟩
      · rw [setRow_heap W0 _ _ _ _ _ n2]
        have hz : ([.int .i64 0, .int .i64 0, .int .i64 0, .int .i64 0, .int .i64 0, .int .i64 0, .int .i64 0, .int .i64 0, .int .i64 0, .int .i64 0, .int .i64 0, .int .i64 0, .int .i64 0, .int .i64 0, .int .i64 0, .int .i64 0] : List Value) = List.replicate 16 (.int .i64 0) := rfl
        simp only [hz, List.take_zero, List.nil_append, Nat.zero_add, List.length_map, List.drop_replicate, padK, List.map_append, List.map_replicate]
      · exact ⟨rfl, rfl, rfl, by simp, fun k _ hk => setRow_other _ _ _ _ hk⟩
      · simp
  obtain ⟨rv, W1, hr1, hb1, hk1, hz1⟩ := hcopy
  obtain ⟨k0, k1, k2, k3, k4, k5, k6, k7, k8, k9, k10, k11, k12, k13, k14, k15, hpad⟩ : ∃ k0 k1 k2 k3 k4 k5 k6 k7 k8 k9 k10 k11 k12 k13 k14 k15, padK t = [k0, k1, k2, k3, k4, k5, k6, k7, k8, k9, k10, k11, k12, k13, k14, k15] := by
    have hlen := padK_len hl
    match h : padK t, hlen with
    | [k0, k1, k2, k3, k4, k5, k6, k7, k8, k9, k10, k11, k12, k13, k14, k15], _ => exact ⟨k0, k1, k2, k3, k4, k5, k6, k7, k8, k9, k10, k11, k12, k13, k14, k15, rfl⟩
  rw [hpad] at hb1
  rw [hpad]
  have hb1' : W1.heap[w.heap.size + 1]? = some (.cells #[.int .i64 k0, .int .i64 k1, .int .i64 k2, .int .i64 k3, .int .i64 k4, .int .i64 k5, .int .i64 k6, .int .i64 k7, .int .i64 k8, .int .i64 k9, .int .i64 k10, .int .i64 k11, .int .i64 k12, .int .i64 k13, .int .i64 k14, .int .i64 k15] 81 (0, 0)) := hb1
  have hb0 := hk1.heap n1 (by omega)
  have c0 := cells_of_block hb1' 0 _ rfl
  have z0 := cells_of_block hb0 0 _ rfl
  have f0 := box_free hb0 0
  have c1 := cells_of_block hb1' 1 _ rfl
  have z1 := cells_of_block hb0 1 _ rfl
  have f1 := box_free hb0 1
  have c2 := cells_of_block hb1' 2 _ rfl
  have z2 := cells_of_block hb0 2 _ rfl
  have f2 := box_free hb0 2
  have c3 := cells_of_block hb1' 3 _ rfl
  have z3 := cells_of_block hb0 3 _ rfl
  have f3 := box_free hb0 3
  have c4 := cells_of_block hb1' 4 _ rfl
  have z4 := cells_of_block hb0 4 _ rfl
  have f4 := box_free hb0 4
  have c5 := cells_of_block hb1' 5 _ rfl
  have z5 := cells_of_block hb0 5 _ rfl
  have f5 := box_free hb0 5
  have c6 := cells_of_block hb1' 6 _ rfl
  have z6 := cells_of_block hb0 6 _ rfl
  have f6 := box_free hb0 6
  have c7 := cells_of_block hb1' 7 _ rfl
  have z7 := cells_of_block hb0 7 _ rfl
  have f7 := box_free hb0 7
  have c8 := cells_of_block hb1' 8 _ rfl
  have z8 := cells_of_block hb0 8 _ rfl
  have f8 := box_free hb0 8
  have c9 := cells_of_block hb1' 9 _ rfl
  have z9 := cells_of_block hb0 9 _ rfl
  have f9 := box_free hb0 9
  have c10 := cells_of_block hb1' 10 _ rfl
  have z10 := cells_of_block hb0 10 _ rfl
  have f10 := box_free hb0 10
  have c11 := cells_of_block hb1' 11 _ rfl
  have z11 := cells_of_block hb0 11 _ rfl
  have f11 := box_free hb0 11
  have c12 := cells_of_block hb1' 12 _ rfl
  have z12 := cells_of_block hb0 12 _ rfl
  have f12 := box_free hb0 12
  have c13 := cells_of_block hb1' 13 _ rfl
  have z13 := cells_of_block hb0 13 _ rfl
  have f13 := box_free hb0 13
  have c14 := cells_of_block hb1' 14 _ rfl
  have z14 := cells_of_block hb0 14 _ rfl
  have f14 := box_free hb0 14
  have c15 := cells_of_block hb1' 15 _ rfl
  have z15 := cells_of_block hb0 15 _ rfl
  have f15 := box_free hb0 15
  simp only [Nat.zero_add] at c0 z0 c1 z1 c2 z2 c3 z3 c4 z4 c5 z5 c6 z6 c7 z7 c8 z8 c9 z9 c10 z10 c11 z11 c12 z12 c13 z13 c14 z14 c15 z15
  have l1 : w.heap.size < W1.heap.size := by omega
  have l2 : w.heap.size + 1 < W1.heap.size := by omega
  have kw : Keep (fun k => k < w.heap.size) w W1 := (k0'.mono fun _ _ _ => trivial).trans (hk1.mono fun b _ h => by omega)
  clear hcl hs0 hinfo n1 n2 hb1 k0' hk1 hpad hz1
  have Xhs := Lib.hid hs
  have Xhet := Lib.hid het
  have Xhb0 := Lib.hid hb0
  have Xhb1' := Lib.hid hb1'
  have Xkw := Lib.hid kw
  clear hs het hb0 hb1' kw
  go_enter Try.func41, Try.ntmps41
  go_wp2_with fail
  refine post_abs (fun W => W.heap[w.heap.size]? = some (.cells #[.int .i64 k0, .int .i64 k1, .int .i64 k2, .int .i64 k3, .int .i64 k4, .int .i64 k5, .int .i64 k6, .int .i64 k7, .int .i64 k8, .int .i64 k9, .int .i64 k10, .int .i64 k11, .int .i64 k12, .int .i64 k13, .int .i64 k14, .int .i64 k15] 81 (0, 0)) ∧ Keep (fun k => k < w.heap.size) w W) (w := chain w.heap.size [.int .i64 k0, .int .i64 k1, .int .i64 k2, .int .i64 k3, .int .i64 k4, .int .i64 k5, .int .i64 k6, .int .i64 k7, .int .i64 k8, .int .i64 k9, .int .i64 k10, .int .i64 k11, .int .i64 k12, .int .i64 k13, .int .i64 k14, .int .i64 k15] 0 W1) ⟨chain_full [.int .i64 k0, .int .i64 k1, .int .i64 k2, .int .i64 k3, .int .i64 k4, .int .i64 k5, .int .i64 k6, .int .i64 k7, .int .i64 k8, .int .i64 k9, .int .i64 k10, .int .i64 k11, .int .i64 k12, .int .i64 k13, .int .i64 k14, .int .i64 k15] Xhb0.out rfl, Xkw.out.trans ((chain_keep _ _ _ _).mono (fun b _ h => by omega))⟩ ?_
  rintro W2 ⟨hq, kq⟩
  have r0 := cells_of_block hq 0 _ rfl
  have r1 := cells_of_block hq 1 _ rfl
  have r2 := cells_of_block hq 2 _ rfl
  have r3 := cells_of_block hq 3 _ rfl
  have r4 := cells_of_block hq 4 _ rfl
  have r5 := cells_of_block hq 5 _ rfl
  have r6 := cells_of_block hq 6 _ rfl
  have r7 := cells_of_block hq 7 _ rfl
  have r8 := cells_of_block hq 8 _ rfl
  have r9 := cells_of_block hq 9 _ rfl
  have r10 := cells_of_block hq 10 _ rfl
  have r11 := cells_of_block hq 11 _ rfl
  have r12 := cells_of_block hq 12 _ rfl
  have r13 := cells_of_block hq 13 _ rfl
  have r14 := cells_of_block hq 14 _ rfl
  have r15 := cells_of_block hq 15 _ rfl
  simp only [Nat.zero_add] at r0 r1 r2 r3 r4 r5 r6 r7 r8 r9 r10 r11 r12 r13 r14 r15
  clear hq
  have Xkq := Lib.hid kq
  clear kq
  refine bodyPost_ret (v := .agg #[.int .i64 k0, .int .i64 k1, .int .i64 k2, .int .i64 k3, .int .i64 k4, .int .i64 k5, .int .i64 k6, .int .i64 k7, .int .i64 k8, .int .i64 k9, .int .i64 k10, .int .i64 k11, .int .i64 k12, .int .i64 k13, .int .i64 k14, .int .i64 k15]) (by simp [results, Try.results41, go_sem, r0, r1, r2, r3, r4, r5, r6, r7, r8, r9, r10, r11, r12, r13, r14, r15]) rfl ⟨rfl, Xkq.out⟩
end Go.Proofs

/- Maps with keys of any type: 'm[k] = append(m[k], ..)' (entry, then store). No program is named here. -/
namespace Go.Ink
open Go.RowKit Go.WideMaps
set_option linter.unusedVariables false
set_option linter.unusedSimpArgs false
section
variable {κ ν : Type} {P : Program} {T K E : TypeId} {ek : κ → Value} {ev : ν → Value}

theorem run_entryK [DecidableEq κ] (hT : P.underlying T = some (.map K E)) (law : KeyLaw P K) (hinj : ∀ a b, ek a = ek b → a = b) {z : Value} (hz : ∀ w : World, (zeroValue E).run P w = .ok z w) {w : World} {b : Nat} {m : List (κ × ν)} (h : MapIn P K ek ev w b m) (hsz : m.length ≤ maxLen) (k : κ) (hk : ∃ l, keyOf P K (ek k) = some l) :
    ∃ (v0 : Value) (st : Int) (w1 : World), (Instr.mapEntry T (.map (some b)) (ek k)).run P w = .ok (.tuple #[v0, .int .i64 st]) w1 ∧ ((∃ v, (k, v) ∈ m ∧ v0 = ev v) ∨ (k ∉ m.map (·.1) ∧ v0 = z)) ∧
      Keep (fun j => j ≠ b) w w1 ∧ w1.heap.size = w.heap.size ∧
      ∀ (w2 : World), w2.heap[b]? = w1.heap[b]? → ∀ v : ν, ∃ w3, (Instr.entryStore T (.map (some b)) (.int .i64 st) (ev v)).run P w2 = .ok () w3 ∧ MapIn P K ek ev w3 b (setK m k v) ∧ Keep (fun j => j ≠ b) w2 w3 ∧ w3.heap.size = w2.heap.size := by
  obtain ⟨es, c, h1, h2, hn, hok, hbc, hbn⟩ := id h
  obtain ⟨l, hl⟩ := id hk
  have hat : ∀ j : Nat, (es.toList[j]?).map (fun e => (e.key, e.val)) = (m[j]?).map (fun p => (ek p.1, ev p.2)) := fun j => by
    have := congrArg (fun l => l[j]?) h2
    simpa only [List.getElem?_map] using this
  have hlen : es.toList.length = m.length := by have := congrArg List.length h2; simpa using this
  have hmem : ∀ e, e ∈ es.toList → ∃ p, p ∈ m ∧ e.key = ek p.1 ∧ e.val = ev p.2 := fun e he => by
    obtain ⟨j, hj⟩ := List.mem_iff_getElem?.1 he
    have hjl := (List.getElem?_eq_some_iff.1 hj).1
    obtain ⟨p, hp⟩ : ∃ p, m[j]? = some p := ⟨_, List.getElem?_eq_getElem (by omega)⟩
    have := hat j
    rw [hj, hp] at this
    simp only [Option.map_some, Option.some.injEq, Prod.mk.injEq] at this
    exact ⟨p, List.mem_of_getElem? hp, this.1, this.2⟩
  have hback : ∀ p, p ∈ m → ∃ e, e ∈ es.toList ∧ e.key = ek p.1 ∧ e.val = ev p.2 := fun p hp => by
    obtain ⟨j, hj⟩ := List.mem_iff_getElem?.1 hp
    have hjl := (List.getElem?_eq_some_iff.1 hj).1
    obtain ⟨e, he⟩ : ∃ e, es.toList[j]? = some e := ⟨_, List.getElem?_eq_getElem (by omega)⟩
    have := hat j
    rw [hj, he] at this
    simp only [Option.map_some, Option.some.injEq, Prod.mk.injEq] at this
    exact ⟨e, List.mem_of_getElem? he, this.1, this.2⟩
  have hkeys : es.toList.map (·.key) = (m.map (·.1)).map ek := by
    have := congrArg (List.map Prod.fst) h2
    simpa [List.map_map, Function.comp_def] using this
  have hfit : Go.WideElems.Fit (H := Unit) P K (fun _ => some (.nil, [])) es c := by
    refine ⟨by rw [← Array.length_toList, hlen]; exact hsz, ⟨hbc, hbn, ?_⟩, fun x hx => ?_⟩
    · rw [hkeys]
      exact List.Pairwise.map ek (fun a b hne e => hne (hinj a b e)) hn
    · obtain ⟨p, hp, e1, _⟩ := hmem x hx
      obtain ⟨l, hl⟩ := hok p hp
      exact ⟨(l, .nil), by simp [Go.WideElems.rd, e1, hl]⟩
  obtain ⟨v0, st, es1, c1, hrun, hv, hst⟩ := Go.WideElems.entry_then_store (P := P) law hT hz h1 hfit hl
  have hset : ∀ (u : World) (o : Obj), b < u.heap.size → (Go.ChangeMaps.setBlock u b o).heap[b]? = some o ∧ Keep (fun j => j ≠ b) u (Go.ChangeMaps.setBlock u b o) ∧ (Go.ChangeMaps.setBlock u b o).heap.size = u.heap.size := fun u o hb => by
    refine ⟨by simp [Go.ChangeMaps.setBlock, hb], ⟨rfl, rfl, rfl, by simp [Go.ChangeMaps.setBlock], fun i _ hi => ?_⟩, by simp [Go.ChangeMaps.setBlock]⟩
    simp only [Go.ChangeMaps.setBlock]
    rw [Array.getElem?_setIfInBounds_ne (fun e => hi e.symm)]
  have hb := heap_lt h1
  refine ⟨v0, st, _, hrun, ?_, (hset w _ hb).2.1, (hset w _ hb).2.2, fun w2 hw2 v => ?_⟩
  · rcases hv with ⟨e0, he0, hek, hev⟩ | ⟨hno, hz0⟩
    · obtain ⟨p, hp, e1, e2⟩ := hmem e0 he0
      have : p.1 = k := hinj _ _ (by rw [← e1, hek])
      exact .inl ⟨p.2, by rw [← this]; exact hp, by rw [hev, e2]⟩
    · refine .inr ⟨fun hkm => ?_, hz0⟩
      obtain ⟨p, hp, rfl⟩ := List.mem_map.1 hkm
      obtain ⟨e, he, e1, _⟩ := hback p hp
      exact hno e he e1
  · rw [(hset w _ hb).1] at hw2
    obtain ⟨es', c', hr1, hr2⟩ := hst w2 (ev v) hw2
    obtain ⟨w', hr3, hM, _, _⟩ := run_setK hT law hinj h k hk v
    rw [hr2] at hr3
    cases hr3
    obtain ⟨es2, c2, q1, q2, q3, q4, q5, q6⟩ := hM
    rw [(hset w _ hb).1] at q1
    cases q1
    have hb2 := heap_lt hw2
    exact ⟨_, hr1, ⟨_, _, (hset w2 _ hb2).1, q2, q3, q4, q5, q6⟩, (hset w2 _ hb2).2.1, (hset w2 _ hb2).2.2⟩
end
end Go.Ink

/- Append to a slice of the call's own: only the block where it then lies is changed. No program is named here. -/
namespace Go.Ink
open Go.RowKit
set_option linter.unusedVariables false
set_option linter.unusedSimpArgs false
variable {P : Program}

theorem appK {t e : TypeId} {size bytes : Nat} (hE : ElemOf P t e size bytes) (ty : TypeId) {w : World} {base : Nat} {v : Value} {n : Nat} {xs : List Value} (hown : w.ownsRow base e size v n xs)
    (a : Addr) (m c : Nat) (news : List Value) (hl : news.length = m * size) (hnews : ∀ j u, news[j]? = some u → w.cell? (a.add j) = some u) (h1 : ∀ u ∈ news, u.oneCell' = true)
    (hm0 : 0 < m) (hnm : n + m ≤ 8589934592) (hbase : base ≤ w.heap.size) :
    ∃ v' w', (Builtin.append_ #[t, t] ty #[v, .slice (some a) m c]).run P w = .ok v' w' ∧ w'.ownsRow base e size v' (n + m) (xs ++ news) ∧
      ∃ g cap, v' = .slice (some ⟨g, 0, none⟩) (n + m) cap ∧ (v.ownBlock = some g ∨ w.heap.size ≤ g) ∧ g < w'.heap.size ∧ Keep (fun b => b ≠ g) w w' := by
  obtain ⟨ht, hsz, hby, i, z, hi, hz, hsize, hbytes, hzs⟩ := hE
  subst hsize
  subst hbytes
  have hb47 : (n + m) * i.bytes ≤ 140737488355328 := Nat.le_trans (Nat.mul_le_mul hnm hby) (by decide)
  have h63 : n + m ≤ maxLen := by simp only [maxLen]; omega
  have hlen : (xs ++ news).length = (n + m) * i.size := by rw [List.length_append, hown.1, hl, Nat.add_mul]
  have grown : ∀ (old : Nat), old < n + m → ∀ (row : Option Nat),
      (w.drew.alloc (.cells (xs.toArray ++ news.toArray ++ Builtin.zeroCells z.cells (grownCap w (n + m) old e - (n + m))) e)).ownsRow base e i.size
        (.slice (some ⟨w.heap.size, 0, none⟩) (n + m) (grownCap w (n + m) old e)) (n + m) (xs ++ news) ∧
      w.grownBy (w.drew.alloc (.cells (xs.toArray ++ news.toArray ++ Builtin.zeroCells z.cells (grownCap w (n + m) old e - (n + m))) e)) row := by
    intro old ho row
    have hge := grownCap_ge w (n + m) old e
    have hcm : grownCap w (n + m) old e ≤ maxLen := grownCap_le_maxLen w (n + m) old e h63
    refine ⟨⟨hlen, .inr ⟨w.heap.size, _, _, rfl, hbase, World.alloc_heap_new w.drew _, hge, hcm, ?_, ?_⟩⟩, ⟨rfl, rfl, rfl, by simp, fun k hk _ => Below.heap_alloc w.drew _ k hk⟩⟩
    · simp only [Array.size_append, List.size_toArray, size_zeroCells, hzs, hown.1, hl, ← Nat.add_mul]
      congr 1
      omega
    · simp only [Array.toList_append, List.append_assoc]
      rw [← List.append_assoc, ← hlen]
      exact List.take_left
  rcases hown.2 with ⟨rfl, rfl⟩ | ⟨g, cap, cur, rfl, hbg, hg, hnc, hcm, hcs, htake⟩
  · have hx : xs = [] := List.eq_nil_of_length_eq_zero (by simpa using hown.1)
    subst hx
    have hr := run_append_nil (P := P) w t ty e i z ht hi hz a m c news hl hnews (by omega) (by omega) (by have hb := hb47; simp only [Nat.zero_add] at hb; omega)
    have hgr := grown 0 (by omega) none
    simp only [Nat.zero_add, List.nil_append, Array.empty_append] at hgr ⊢
    exact ⟨_, _, hr, hgr.1, _, _, rfl, .inr (Nat.le_refl _), by simp, (Keep.of_grown hgr.2).mono fun _ _ _ => by simp⟩
  · by_cases hroom : n + m ≤ cap
    · have hfit : n * i.size + news.length ≤ cur.size := by rw [hl, hcs, ← Nat.add_mul]; exact Nat.mul_le_mul_right _ hroom
      have hr := run_append_room (P := P) w t ty e i ht hi g n cap cur hg a m c news hl hnews h1 hroom hfit
      have hG : w.grownBy (w.setRow g (cur.toList.take (n * i.size) ++ news ++ cur.toList.drop (n * i.size + news.length)).toArray) (some g) := ⟨rfl, rfl, rfl, by simp, fun k _ hk => setRow_other w g k _ (fun e => hk (by simp [e]))⟩
      refine ⟨_, _, hr, ⟨hlen, .inr ⟨g, cap, _, rfl, hbg, setRow_heap w g cur _ e _ hg, hroom, hcm, ?_, ?_⟩⟩, g, cap, rfl, .inl rfl, ?_, (Keep.of_grown hG).mono fun _ _ h => by simpa using h⟩
      · simp only [List.size_toArray, List.length_append, List.length_take, List.length_drop, Array.length_toList]
        omega
      · rw [htake, ← hlen]
        exact List.take_left
      · exact Nat.lt_of_lt_of_le (heap_lt hg) hG.size
    · have holds : ∀ j u, xs[j]? = some u → w.cell? ((⟨g, 0, none⟩ : Addr).add j) = some u := hown.cells (g := g) rfl
      have hr := run_append_grow (P := P) w t ty e i z ht hi hz ⟨g, 0, none⟩ n cap xs hown.1 holds a m c news hl hnews (by omega) (by omega) (growslice_fits (by omega) hb47)
      have hgr := grown cap (by omega) none
      exact ⟨_, _, hr, hgr.1, _, _, rfl, .inr (Nat.le_refl _), by simp, (Keep.of_grown hgr.2).mono fun _ _ _ => by simp⟩


/-- nothing is appended -/
theorem append_zero {t e : TypeId} {size bytes : Nat} (hE : ElemOf P t e size bytes) (ty : TypeId) (w : World) (b : Option Addr) (n cap : Nat) (hle : n ≤ cap) (a : Option Addr) (c : Nat) :
    (Builtin.append_ #[t, t] ty #[.slice b n cap, .slice a 0 c]).run P w = .ok (.slice b n cap) w := by
  obtain ⟨ht, hsz, hby, i, z, hi, hz, hsize, hbytes, hzs⟩ := hE
  cases a <;> cases b <;> simp [Builtin.append_, run_underlying ht, sizeOf, typeInfo, hi, Builtin.lenOf, Builtin.firstCells, loadCells, loadCellsFrom, hle, storeCells]
/-- 'append(s, l...)', the list maybe empty -/
theorem appA {t e : TypeId} {size bytes : Nat} (hE : ElemOf P t e size bytes) (ty : TypeId) {w : World} {base : Nat} {v : Value} {n : Nat} {xs : List Value} (hown : w.ownsRow base e size v n xs)
    (a : Option Addr) (m c : Nat) (news : List Value) (hl : news.length = m * size) (hnews : ∀ b, a = some b → ∀ j u, news[j]? = some u → w.cell? (b.add j) = some u) (hn : a = none → m = 0) (h1 : ∀ u ∈ news, u.oneCell' = true)
    (hnm : n + m ≤ 8589934592) (hbase : base ≤ w.heap.size) :
    ∃ v' w', (Builtin.append_ #[t, t] ty #[v, .slice a m c]).run P w = .ok v' w' ∧ w'.ownsRow base e size v' (n + m) (xs ++ news) ∧ (∀ g, v'.ownBlock = some g → v.ownBlock = some g ∨ w.heap.size ≤ g) ∧ Keep (fun b => v'.ownBlock ≠ some b) w w' := by
  by_cases h0 : m = 0
  · subst h0
    have : news = [] := List.eq_nil_of_length_eq_zero (by simpa using hl)
    subst this
    rw [List.append_nil]
    have hv : ∃ b n' cap, v = .slice b n' cap ∧ n' ≤ cap := by
      rcases hown.2 with ⟨e1, e2⟩ | ⟨g, cap, cur, e1, e2, e3, e4, e5, _⟩
      · exact ⟨none, 0, 0, e1, Nat.le_refl _⟩
      · exact ⟨_, _, _, e1, e4⟩
    obtain ⟨b, n', cap, rfl, hle⟩ := hv
    exact ⟨_, _, append_zero hE ty w b n' cap hle a c, hown, fun g hg => .inl hg, Keep.refl _ _⟩
  · cases a with
    | none => exact absurd (hn rfl) h0
    | some ad =>
      obtain ⟨v', w', hr, ho, g, cap, hv, hg, hlt, hK⟩ := appK hE ty hown ad m c news hl (hnews ad rfl) h1 (by omega) hnm hbase
      refine ⟨v', w', hr, ho, fun g' hg' => ?_, hK.mono fun b _ h e => h ?_⟩
      · rw [hv] at hg'; simp only [Value.ownBlock, Option.some.injEq] at hg'; subst hg'; exact hg
      · rw [hv, e]; rfl

end Go.Ink
