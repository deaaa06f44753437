/- Layer 4, the program's relation: whole (a tuple as a key). -/
import Derived.Test.YtbaemcmagkmjiaaProg
import Derived.Test.YtbaemcmagkmjiaaRelH
import Derived.Laws.CopyRow
namespace Go.Proofs
open Go.RowKit Go.Ink
set_option linter.unusedVariables false
set_option linter.unusedSimpArgs false
attribute [local go_sem] Oper.semAt_some

/-- a tuple filled up to sixteen numbers -/
def padK (t : List Int) : List Int := t ++ List.replicate (16 - t.length) 0
def keyV (l : List Int) : Value := .agg (l.map (.int .i64)).toArray
theorem padK_len {t : List Int} (h : t.length ≤ 16) : (padK t).length = 16 := by simp [padK]; omega
theorem pad_inj {s t : List Int} (h : padK s = padK t) (hl : s.length = t.length) : s = t := by
  unfold padK at h
  exact (List.append_inj h hl).1
theorem keyV_inj : ∀ a b : List Int, keyV a = keyV b → a = b := by
  intro a b h
  unfold keyV at h
  injection h with h
  have h2 : a.map (Value.int .i64) = b.map (.int .i64) := by simpa using congrArg Array.toList h
  clear h
  induction a generalizing b with
  | nil => cases b with
    | nil => rfl
    | cons y b => simp at h2
  | cons x a ih => cases b with
    | nil => simp at h2
    | cons y b =>
      simp only [List.map_cons, List.cons.injEq, Value.int.injEq, true_and] at h2
      rw [h2.1, ih b h2.2]

/-- stores of one cell after another -/
def chain (b : Nat) : List Value → Nat → World → World
  | [], _, w => w
  | v :: vs, i, w => chain b vs (i + 1) (w.setCell ⟨b, i, none⟩ v)
theorem chain_heap {b t : Nat} {fr : Nat × Nat} : ∀ (vs : List Value) (i : Nat) (w : World) (cs : Array Value), w.heap[b]? = some (.cells cs t fr) → i + vs.length = cs.size → (chain b vs i w).heap[b]? = some (.cells (cs.toList.take i ++ vs).toArray t fr)
  | [], i, w, cs, h, hl => by
    have : i = cs.size := by simpa using hl
    subst this
    rw [chain, h, List.append_nil]
    rw [List.take_of_length_le (by simp)]
  | v :: vs, i, w, cs, h, hl => by
    have hl2 : i + 1 + vs.length = cs.size := by simp at hl; omega
    have := chain_heap vs (i + 1) (w.setCell ⟨b, i, none⟩ v) _ (set_at i v h) (by simpa using hl2)
    rw [chain, this]
    have hi : i < cs.toList.length := by simp; omega
    simp only [Array.toList_setIfInBounds, List.take_add_one, List.take_set_of_le (Nat.le_refl i), List.getElem?_set_self hi, Option.toList_some, List.append_assoc, List.singleton_append]
theorem chain_full {b t : Nat} {fr : Nat × Nat} {w : World} {cs : Array Value} (vs : List Value) (h : w.heap[b]? = some (.cells cs t fr)) (hl : vs.length = cs.size) : (chain b vs 0 w).heap[b]? = some (.cells vs.toArray t fr) := by
  have := chain_heap vs 0 w cs h (by omega)
  simpa using this
theorem chain_keep (b : Nat) : ∀ (vs : List Value) (i : Nat) (w : World), Keep (fun j => j ≠ b) w (chain b vs i w)
  | [], _, _ => Keep.refl _ _
  | v :: vs, i, w => (Keep.setCell _ _ _ (by simp)).trans (chain_keep b vs (i + 1) _)

set_option maxRecDepth 100000 in
set_option maxHeartbeats 4000000 in
theorem whole_any (n : Nat) (v : Value) (t : List Int) (w : World) (hs : IntsIn n w v t) (hn : n ≤ w.heap.size) (hl : t.length ≤ 16) :
    Calls Try.prog 41 #[v] w fun e w' => e = .returned (keyV (padK t)) ∧ Keep (fun k => k < w.heap.size) w w' := by
  obtain ⟨a, c, rfl, hlt, hct, het⟩ := id hs
  obtain ⟨W0, hW0⟩ : ∃ W0, (w.alloc (.cells #[.int .i64 0, .int .i64 0, .int .i64 0, .int .i64 0, .int .i64 0, .int .i64 0, .int .i64 0, .int .i64 0, .int .i64 0, .int .i64 0, .int .i64 0, .int .i64 0, .int .i64 0, .int .i64 0, .int .i64 0, .int .i64 0] 81)).alloc (.cells #[.int .i64 0, .int .i64 0, .int .i64 0, .int .i64 0, .int .i64 0, .int .i64 0, .int .i64 0, .int .i64 0, .int .i64 0, .int .i64 0, .int .i64 0, .int .i64 0, .int .i64 0, .int .i64 0, .int .i64 0, .int .i64 0] 81) = W0 := ⟨_, rfl⟩
  have k0' : Keep (fun _ => True) w W0 := by rw [← hW0]; exact (Keep.alloc _ _ _).trans (Keep.alloc _ _ _)
  have s0 : W0.heap.size = w.heap.size + 1 + 1 := by rw [← hW0]; simp
  have n1 : W0.heap[w.heap.size]? = some (.cells #[.int .i64 0, .int .i64 0, .int .i64 0, .int .i64 0, .int .i64 0, .int .i64 0, .int .i64 0, .int .i64 0, .int .i64 0, .int .i64 0, .int .i64 0, .int .i64 0, .int .i64 0, .int .i64 0, .int .i64 0, .int .i64 0] 81 (0, 0)) := by rw [← hW0]; exact old_block (new_block _ _) _
  have n2 : W0.heap[w.heap.size + 1]? = some (.cells #[.int .i64 0, .int .i64 0, .int .i64 0, .int .i64 0, .int .i64 0, .int .i64 0, .int .i64 0, .int .i64 0, .int .i64 0, .int .i64 0, .int .i64 0, .int .i64 0, .int .i64 0, .int .i64 0, .int .i64 0, .int .i64 0] 81 (0, 0)) := by rw [← hW0]; simp only [alloc_get, World.size_alloc]; simp
  have hs0 := ints_stay hs (m := n) (k0'.mono fun _ _ _ => trivial) (Nat.le_refl _)
  have hcl := slice_cells (sz := 1) ic (fun _ => rfl) (by omega) (E := IntE) (fun b o x h j u hj => by
    have hj0 : j = 0 := by have := (List.getElem?_eq_some_iff.1 hj).1; simp [ic] at this; exact this
    subst hj0
    simp [ic] at hj
    subst hj
    exact h) hs0 rfl
  have hinfo : (Try.prog.info? 3).map (·.size) = some 1 := by kernel_rfl
  have hcopy : ∃ r W1, (Builtin.copy_ #[23, 23] 3 #[.slice (some ⟨w.heap.size + 1, 0, none⟩) 16 16, .slice a t.length c]).run Try.prog W0 = .ok r W1 ∧ W1.heap[w.heap.size + 1]? = some (.cells ((padK t).map (.int .i64)).toArray 81 (0, 0)) ∧ Keep (fun b => b ≠ w.heap.size + 1) W0 W1 ∧ W1.heap.size = W0.heap.size := by
    cases a with
    | none =>
      have ht : t = [] := List.eq_nil_of_length_eq_zero (hcl.2 rfl)
      subst ht
      exact ⟨_, _, run_copy_none W0 _ _ _ _ _ _ _ _ _ _ Try.underlying23 hinfo (by simp), n2, Keep.refl _ _, rfl⟩
    | some ad =>
      have hcs := hcl.1 ad rfl
      rw [ic_map] at hcs
      have hr := run_copy_row (P := Try.prog) W0 23 23 3 3 (w.heap.size + 1) 0 16 16 ad t.length c _ _ (t.map (.int .i64)) Try.underlying23 hinfo n2 (by rw [List.length_map]; exact (Nat.min_eq_left hl).symm) hcs (by simp; omega) (by simp [Value.oneCell'])
      refine ⟨_, _, hr, ?_, ?_, ?_⟩
      · rw [setRow_heap W0 _ _ _ _ _ n2]
        have hz : ([.int .i64 0, .int .i64 0, .int .i64 0, .int .i64 0, .int .i64 0, .int .i64 0, .int .i64 0, .int .i64 0, .int .i64 0, .int .i64 0, .int .i64 0, .int .i64 0, .int .i64 0, .int .i64 0, .int .i64 0, .int .i64 0] : List Value) = List.replicate 16 (.int .i64 0) := rfl
        simp only [hz, List.take_zero, List.nil_append, Nat.zero_add, List.length_map, List.drop_replicate, padK, List.map_append, List.map_replicate]
      · exact ⟨rfl, rfl, rfl, by simp, fun k _ hk => setRow_other _ _ _ _ hk⟩
      · simp
  obtain ⟨rv, W1, hr1, hb1, hk1, hz1⟩ := hcopy
  obtain ⟨k0, k1, k2, k3, k4, k5, k6, k7, k8, k9, k10, k11, k12, k13, k14, k15, hpad⟩ : ∃ k0 k1 k2 k3 k4 k5 k6 k7 k8 k9 k10 k11 k12 k13 k14 k15, padK t = [k0, k1, k2, k3, k4, k5, k6, k7, k8, k9, k10, k11, k12, k13, k14, k15] := by
    have hlen := padK_len hl
    match h : padK t, hlen with
    | [k0, k1, k2, k3, k4, k5, k6, k7, k8, k9, k10, k11, k12, k13, k14, k15], _ => exact ⟨k0, k1, k2, k3, k4, k5, k6, k7, k8, k9, k10, k11, k12, k13, k14, k15, rfl⟩
  rw [hpad] at hb1
  rw [hpad]
  have hb1' : W1.heap[w.heap.size + 1]? = some (.cells #[.int .i64 k0, .int .i64 k1, .int .i64 k2, .int .i64 k3, .int .i64 k4, .int .i64 k5, .int .i64 k6, .int .i64 k7, .int .i64 k8, .int .i64 k9, .int .i64 k10, .int .i64 k11, .int .i64 k12, .int .i64 k13, .int .i64 k14, .int .i64 k15] 81 (0, 0)) := hb1
  have hb0 := hk1.heap n1 (by omega)
  have c0 := cells_of_block hb1' 0 _ rfl
  have z0 := cells_of_block hb0 0 _ rfl
  have f0 := box_free hb0 0
  have c1 := cells_of_block hb1' 1 _ rfl
  have z1 := cells_of_block hb0 1 _ rfl
  have f1 := box_free hb0 1
  have c2 := cells_of_block hb1' 2 _ rfl
  have z2 := cells_of_block hb0 2 _ rfl
  have f2 := box_free hb0 2
  have c3 := cells_of_block hb1' 3 _ rfl
  have z3 := cells_of_block hb0 3 _ rfl
  have f3 := box_free hb0 3
  have c4 := cells_of_block hb1' 4 _ rfl
  have z4 := cells_of_block hb0 4 _ rfl
  have f4 := box_free hb0 4
  have c5 := cells_of_block hb1' 5 _ rfl
  have z5 := cells_of_block hb0 5 _ rfl
  have f5 := box_free hb0 5
  have c6 := cells_of_block hb1' 6 _ rfl
  have z6 := cells_of_block hb0 6 _ rfl
  have f6 := box_free hb0 6
  have c7 := cells_of_block hb1' 7 _ rfl
  have z7 := cells_of_block hb0 7 _ rfl
  have f7 := box_free hb0 7
  have c8 := cells_of_block hb1' 8 _ rfl
  have z8 := cells_of_block hb0 8 _ rfl
  have f8 := box_free hb0 8
  have c9 := cells_of_block hb1' 9 _ rfl
  have z9 := cells_of_block hb0 9 _ rfl
  have f9 := box_free hb0 9
  have c10 := cells_of_block hb1' 10 _ rfl
  have z10 := cells_of_block hb0 10 _ rfl
  have f10 := box_free hb0 10
  have c11 := cells_of_block hb1' 11 _ rfl
  have z11 := cells_of_block hb0 11 _ rfl
  have f11 := box_free hb0 11
  have c12 := cells_of_block hb1' 12 _ rfl
  have z12 := cells_of_block hb0 12 _ rfl
  have f12 := box_free hb0 12
  have c13 := cells_of_block hb1' 13 _ rfl
  have z13 := cells_of_block hb0 13 _ rfl
  have f13 := box_free hb0 13
  have c14 := cells_of_block hb1' 14 _ rfl
  have z14 := cells_of_block hb0 14 _ rfl
  have f14 := box_free hb0 14
  have c15 := cells_of_block hb1' 15 _ rfl
  have z15 := cells_of_block hb0 15 _ rfl
  have f15 := box_free hb0 15
  simp only [Nat.zero_add] at c0 z0 c1 z1 c2 z2 c3 z3 c4 z4 c5 z5 c6 z6 c7 z7 c8 z8 c9 z9 c10 z10 c11 z11 c12 z12 c13 z13 c14 z14 c15 z15
  have l1 : w.heap.size < W1.heap.size := by omega
  have l2 : w.heap.size + 1 < W1.heap.size := by omega
  have kw : Keep (fun k => k < w.heap.size) w W1 := (k0'.mono fun _ _ _ => trivial).trans (hk1.mono fun b _ h => by omega)
  clear hcl hs0 hinfo n1 n2 hb1 k0' hk1 hpad hz1
  have Xhs := Lib.hid hs
  have Xhet := Lib.hid het
  have Xhb0 := Lib.hid hb0
  have Xhb1' := Lib.hid hb1'
  have Xkw := Lib.hid kw
  clear hs het hb0 hb1' kw
  go_enter Try.func41, Try.ntmps41
  go_wp2_with fail
  refine post_abs (fun W => W.heap[w.heap.size]? = some (.cells #[.int .i64 k0, .int .i64 k1, .int .i64 k2, .int .i64 k3, .int .i64 k4, .int .i64 k5, .int .i64 k6, .int .i64 k7, .int .i64 k8, .int .i64 k9, .int .i64 k10, .int .i64 k11, .int .i64 k12, .int .i64 k13, .int .i64 k14, .int .i64 k15] 81 (0, 0)) ∧ Keep (fun k => k < w.heap.size) w W) (w := chain w.heap.size [.int .i64 k0, .int .i64 k1, .int .i64 k2, .int .i64 k3, .int .i64 k4, .int .i64 k5, .int .i64 k6, .int .i64 k7, .int .i64 k8, .int .i64 k9, .int .i64 k10, .int .i64 k11, .int .i64 k12, .int .i64 k13, .int .i64 k14, .int .i64 k15] 0 W1) ⟨chain_full [.int .i64 k0, .int .i64 k1, .int .i64 k2, .int .i64 k3, .int .i64 k4, .int .i64 k5, .int .i64 k6, .int .i64 k7, .int .i64 k8, .int .i64 k9, .int .i64 k10, .int .i64 k11, .int .i64 k12, .int .i64 k13, .int .i64 k14, .int .i64 k15] Xhb0.out rfl, Xkw.out.trans ((chain_keep _ _ _ _).mono (fun b _ h => by omega))⟩ ?_
  rintro W2 ⟨hq, kq⟩
  have r0 := cells_of_block hq 0 _ rfl
  have r1 := cells_of_block hq 1 _ rfl
  have r2 := cells_of_block hq 2 _ rfl
  have r3 := cells_of_block hq 3 _ rfl
  have r4 := cells_of_block hq 4 _ rfl
  have r5 := cells_of_block hq 5 _ rfl
  have r6 := cells_of_block hq 6 _ rfl
  have r7 := cells_of_block hq 7 _ rfl
  have r8 := cells_of_block hq 8 _ rfl
  have r9 := cells_of_block hq 9 _ rfl
  have r10 := cells_of_block hq 10 _ rfl
  have r11 := cells_of_block hq 11 _ rfl
  have r12 := cells_of_block hq 12 _ rfl
  have r13 := cells_of_block hq 13 _ rfl
  have r14 := cells_of_block hq 14 _ rfl
  have r15 := cells_of_block hq 15 _ rfl
  simp only [Nat.zero_add] at r0 r1 r2 r3 r4 r5 r6 r7 r8 r9 r10 r11 r12 r13 r14 r15
  clear hq
  have Xkq := Lib.hid kq
  clear kq
  refine bodyPost_ret (v := .agg #[.int .i64 k0, .int .i64 k1, .int .i64 k2, .int .i64 k3, .int .i64 k4, .int .i64 k5, .int .i64 k6, .int .i64 k7, .int .i64 k8, .int .i64 k9, .int .i64 k10, .int .i64 k11, .int .i64 k12, .int .i64 k13, .int .i64 k14, .int .i64 k15]) (by simp [results, Try.results41, go_sem, r0, r1, r2, r3, r4, r5, r6, r7, r8, r9, r10, r11, r12, r13, r14, r15]) rfl ⟨rfl, Xkq.out⟩
end Go.Proofs
