/- Layer 4, the program's relation: cut (a tuple's values in some columns, as a key). -/
import Derived.Test.YtbaemcmagkmjiaaProg
import Derived.Test.YtbaemcmagkmjiaaRelIToOwnB
import Derived.Test.YtbaemcmagkmjiaaOwnToRowC
namespace Go.Proofs
open Go.RowKit Go.Ink
set_option linter.unusedVariables false
set_option linter.unusedSimpArgs false
attribute [local go_sem] Oper.semAt_some

/-- a tuple's values in some columns -/
def cutL (t l : List Int) : List Int := l.map fun c => t.getD c.toNat 0
def cutK (t l : List Int) : List Int := padK (cutL t l)
theorem cutL_len (t l : List Int) : (cutL t l).length = l.length := by simp [cutL]
theorem pad_set {t : List Int} (x : Int) (h : t.length < 16) : ((padK t).map (Value.int .i64)).toArray.setIfInBounds t.length (.int .i64 x) = ((padK (t ++ [x])).map (.int .i64)).toArray := by
  apply Array.ext'
  simp only [Array.toList_setIfInBounds, ← List.map_set]
  congr 1
  unfold padK
  have : 16 - t.length = (16 - (t ++ [x]).length) + 1 := by simp; omega
  rw [this, List.replicate_succ, List.set_append_right _ _ (Nat.le_refl _), Nat.sub_self, List.set_cons_zero, List.append_assoc, List.singleton_append]

set_option maxRecDepth 100000 in
set_option maxHeartbeats 4000000 in
theorem cut_any (w : World) (v vl : Value) (t l : List Int) (hs : IntsIn w.heap.size w v t) (hl : IntsIn w.heap.size w vl l) (hlen : l.length ≤ 16) (hin : ∀ c ∈ l, 0 ≤ c ∧ c < t.length) :
    Calls Try.prog 52 #[v, vl] w fun e w' => e = .returned (keyV (cutK t l)) ∧ Keep (fun k => k < w.heap.size) w w' := by
  obtain ⟨a, c, rfl, hlt, hct, het⟩ := id hs
  obtain ⟨a2, c2, rfl, hlt2, hct2, het2⟩ := id hl
  obtain ⟨W0, hW0⟩ : ∃ W0, (w.alloc (.cells #[.int .i64 0, .int .i64 0, .int .i64 0, .int .i64 0, .int .i64 0, .int .i64 0, .int .i64 0, .int .i64 0, .int .i64 0, .int .i64 0, .int .i64 0, .int .i64 0, .int .i64 0, .int .i64 0, .int .i64 0, .int .i64 0] 81)).alloc (.cells #[.int .i64 0, .int .i64 0, .int .i64 0, .int .i64 0, .int .i64 0, .int .i64 0, .int .i64 0, .int .i64 0, .int .i64 0, .int .i64 0, .int .i64 0, .int .i64 0, .int .i64 0, .int .i64 0, .int .i64 0, .int .i64 0] 81) = W0 := ⟨_, rfl⟩
  have k0' : Keep (fun _ => True) w W0 := by rw [← hW0]; exact (Keep.alloc _ _ _).trans (Keep.alloc _ _ _)
  have s0 : W0.heap.size = w.heap.size + 1 + 1 := by rw [← hW0]; simp
  have n1 : W0.heap[w.heap.size]? = some (.cells #[.int .i64 0, .int .i64 0, .int .i64 0, .int .i64 0, .int .i64 0, .int .i64 0, .int .i64 0, .int .i64 0, .int .i64 0, .int .i64 0, .int .i64 0, .int .i64 0, .int .i64 0, .int .i64 0, .int .i64 0, .int .i64 0] 81 (0, 0)) := by rw [← hW0]; exact old_block (new_block _ _) _
  have n2 : W0.heap[w.heap.size + 1]? = some (.cells ((padK (cutL t (l.take 0))).map (.int .i64)).toArray 81 (0, 0)) := by rw [← hW0]; simp only [alloc_get, World.size_alloc]; simp; rfl
  have Xhs := Lib.hid hs
  have Xhl := Lib.hid hl
  have Xhet := Lib.hid het
  have Xhet2 := Lib.hid het2
  have Xhin := Lib.hid hin
  have Xn1 := Lib.hid n1
  have Xn2 := Lib.hid n2
  have Xk0' := Lib.hid k0'
  clear hs hl het het2 hin n1 n2 k0'
  go_enter Try.func52, Try.ntmps52
  go_wp2_with fail
  go_loopw [10] (fun i wr => ∃ k : Nat, k ≤ l.length ∧ i = .int .i64 k ∧ Keep (fun j => j ≠ w.heap.size + 1) W0 wr ∧ wr.heap[w.heap.size + 1]? = some (.cells ((padK (cutL t (l.take k))).map (.int .i64)).toArray 81 (0, 0))) (fun i _ => l.length - (intOf i).toNat)
  case atStart => exact ⟨0, by omega, rfl, Keep.refl _ _, Xn2.out⟩
  case round =>
    obtain ⟨k, hk, rfl, hK, hblk⟩ := hrel
    have hszk := hK.size
    have hK2 : Keep (fun j => j < w.heap.size) w wr := (Xk0'.out.mono fun _ _ _ => trivial).trans (hK.mono fun b _ h => by omega)
    by_cases hlt' : k < l.length
    · obtain ⟨x, hx⟩ : ∃ x, l[k]? = some x := ⟨_, List.getElem?_eq_getElem hlt'⟩
      have hxin := Xhin.out x (List.mem_of_getElem? hx)
      obtain ⟨y, hy⟩ : ∃ y, t[x.toNat]? = some y := ⟨_, List.getElem?_eq_getElem (by omega)⟩
      obtain ⟨b2, o2, rfl, hb2, hxa⟩ := Xhet2.out k x hx
      obtain ⟨b, o, rfl, hb, hya⟩ := Xhet.out x.toNat y hy
      have hxa := hK2.cell hxa hb2
      have hya := hK2.cell hya hb
      simp only [Nat.mul_one] at hxa hya
      have hbw : b < wr.heap.size := by omega
      have hbw2 : b2 < wr.heap.size := by omega
      have hlt1 : (k : Int) < l.length := by omega
      have hk0 : (0 : Int) ≤ k := by omega
      have hx0 : 0 ≤ x := hxin.1
      have hx1 : x < t.length := hxin.2
      have hk16 : (k : Int) < 16 := by omega
      have hself : w.heap.size + 1 < wr.heap.size := by omega
      have htl : (cutL t (l.take k)).length = k := by rw [cutL_len, List.length_take]; omega
      have hset := set_at k (.int .i64 y) hblk
      have hnext : cutL t (l.take (k + 1)) = cutL t (l.take k) ++ [y] := by
        unfold cutL
        rw [List.take_add_one, hx]
        simp [List.getD_eq_getElem?_getD, hy]
      have hps := pad_set y (t := cutL t (l.take k)) (by omega)
      rw [htl] at hps
      rw [hps, ← hnext] at hset
      have hfr : wr.frozen? ⟨w.heap.size + 1, k, none⟩ = false := by simp [World.frozen?, hblk]
      obtain ⟨u0, hu0⟩ : ∃ u0, wr.cell? ⟨w.heap.size + 1, k, none⟩ = some u0 := by
        have hl2 : k < ((padK (cutL t (l.take k))).map (Value.int .i64)).length := by rw [List.length_map, padK_len (by omega)]; omega
        have := cells_of_block hblk k _ (by exact List.getElem?_eq_getElem hl2)
        rw [Nat.zero_add] at this
        exact ⟨_, this⟩
      have hxt : (x.toNat : Int) = x := by omega
      clear hps hnext htl hblk hx hy hxin
      have Xhset := Lib.hid hset
      have XhK := Lib.hid hK
      have XhK2 := Lib.hid hK2
      clear hset hK hK2
      go_wp2_with fail
      go_roundw
      case rel => exact ⟨k + 1, by omega, by go_num, XhK.out.trans (Keep.setCell _ _ _ (by simp)), Xhset.out⟩
      case measure => simp [intOf]; omega
    · obtain rfl : k = l.length := by omega
      rw [List.take_length] at hblk
      have hlen2 : (cutL t l).length ≤ 16 := by rw [cutL_len]; exact hlen
      obtain ⟨k0, k1, k2, k3, k4, k5, k6, k7, k8, k9, k10, k11, k12, k13, k14, k15, hpad⟩ : ∃ k0 k1 k2 k3 k4 k5 k6 k7 k8 k9 k10 k11 k12 k13 k14 k15, padK (cutL t l) = [k0, k1, k2, k3, k4, k5, k6, k7, k8, k9, k10, k11, k12, k13, k14, k15] := by
        have hlen := padK_len hlen2
        match h : padK (cutL t l), hlen with
        | [k0, k1, k2, k3, k4, k5, k6, k7, k8, k9, k10, k11, k12, k13, k14, k15], _ => exact ⟨k0, k1, k2, k3, k4, k5, k6, k7, k8, k9, k10, k11, k12, k13, k14, k15, rfl⟩
      have hans : keyV (cutK t l) = .agg #[.int .i64 k0, .int .i64 k1, .int .i64 k2, .int .i64 k3, .int .i64 k4, .int .i64 k5, .int .i64 k6, .int .i64 k7, .int .i64 k8, .int .i64 k9, .int .i64 k10, .int .i64 k11, .int .i64 k12, .int .i64 k13, .int .i64 k14, .int .i64 k15] := by unfold cutK; rw [hpad]; rfl
      rw [hpad] at hblk
      have hbw : wr.heap[w.heap.size + 1]? = some (.cells #[.int .i64 k0, .int .i64 k1, .int .i64 k2, .int .i64 k3, .int .i64 k4, .int .i64 k5, .int .i64 k6, .int .i64 k7, .int .i64 k8, .int .i64 k9, .int .i64 k10, .int .i64 k11, .int .i64 k12, .int .i64 k13, .int .i64 k14, .int .i64 k15] 81 (0, 0)) := hblk
      have h0w := hK.heap Xn1.out (by omega)
      have c0 := cells_of_block hbw 0 _ rfl
      have z0 := cells_of_block h0w 0 _ rfl
      have f0 := box_free h0w 0
      have c1 := cells_of_block hbw 1 _ rfl
      have z1 := cells_of_block h0w 1 _ rfl
      have f1 := box_free h0w 1
      have c2 := cells_of_block hbw 2 _ rfl
      have z2 := cells_of_block h0w 2 _ rfl
      have f2 := box_free h0w 2
      have c3 := cells_of_block hbw 3 _ rfl
      have z3 := cells_of_block h0w 3 _ rfl
      have f3 := box_free h0w 3
      have c4 := cells_of_block hbw 4 _ rfl
      have z4 := cells_of_block h0w 4 _ rfl
      have f4 := box_free h0w 4
      have c5 := cells_of_block hbw 5 _ rfl
      have z5 := cells_of_block h0w 5 _ rfl
      have f5 := box_free h0w 5
      have c6 := cells_of_block hbw 6 _ rfl
      have z6 := cells_of_block h0w 6 _ rfl
      have f6 := box_free h0w 6
      have c7 := cells_of_block hbw 7 _ rfl
      have z7 := cells_of_block h0w 7 _ rfl
      have f7 := box_free h0w 7
      have c8 := cells_of_block hbw 8 _ rfl
      have z8 := cells_of_block h0w 8 _ rfl
      have f8 := box_free h0w 8
      have c9 := cells_of_block hbw 9 _ rfl
      have z9 := cells_of_block h0w 9 _ rfl
      have f9 := box_free h0w 9
      have c10 := cells_of_block hbw 10 _ rfl
      have z10 := cells_of_block h0w 10 _ rfl
      have f10 := box_free h0w 10
      have c11 := cells_of_block hbw 11 _ rfl
      have z11 := cells_of_block h0w 11 _ rfl
      have f11 := box_free h0w 11
      have c12 := cells_of_block hbw 12 _ rfl
      have z12 := cells_of_block h0w 12 _ rfl
      have f12 := box_free h0w 12
      have c13 := cells_of_block hbw 13 _ rfl
      have z13 := cells_of_block h0w 13 _ rfl
      have f13 := box_free h0w 13
      have c14 := cells_of_block hbw 14 _ rfl
      have z14 := cells_of_block h0w 14 _ rfl
      have f14 := box_free h0w 14
      have c15 := cells_of_block hbw 15 _ rfl
      have z15 := cells_of_block h0w 15 _ rfl
      have f15 := box_free h0w 15
      simp only [Nat.zero_add] at c0 z0 c1 z1 c2 z2 c3 z3 c4 z4 c5 z5 c6 z6 c7 z7 c8 z8 c9 z9 c10 z10 c11 z11 c12 z12 c13 z13 c14 z14 c15 z15
      have l1 : w.heap.size < wr.heap.size := by omega
      have l2 : w.heap.size + 1 < wr.heap.size := by omega
      clear hblk hpad hbw
      have Xh0w := Lib.hid h0w
      have XhK2 := Lib.hid hK2
      have Xhans := Lib.hid hans
      have XhK := Lib.hid hK
      clear h0w hK2 hans hK
      go_wp2_with fail
      refine post_abs (fun W => W.heap[w.heap.size]? = some (.cells #[.int .i64 k0, .int .i64 k1, .int .i64 k2, .int .i64 k3, .int .i64 k4, .int .i64 k5, .int .i64 k6, .int .i64 k7, .int .i64 k8, .int .i64 k9, .int .i64 k10, .int .i64 k11, .int .i64 k12, .int .i64 k13, .int .i64 k14, .int .i64 k15] 81 (0, 0)) ∧ Keep (fun k => k < w.heap.size) w W) (w := chain w.heap.size [.int .i64 k0, .int .i64 k1, .int .i64 k2, .int .i64 k3, .int .i64 k4, .int .i64 k5, .int .i64 k6, .int .i64 k7, .int .i64 k8, .int .i64 k9, .int .i64 k10, .int .i64 k11, .int .i64 k12, .int .i64 k13, .int .i64 k14, .int .i64 k15] 0 wr) ⟨chain_full [.int .i64 k0, .int .i64 k1, .int .i64 k2, .int .i64 k3, .int .i64 k4, .int .i64 k5, .int .i64 k6, .int .i64 k7, .int .i64 k8, .int .i64 k9, .int .i64 k10, .int .i64 k11, .int .i64 k12, .int .i64 k13, .int .i64 k14, .int .i64 k15] Xh0w.out rfl, XhK2.out.trans ((chain_keep _ _ _ _).mono (fun b _ h => by omega))⟩ ?_
      rintro W2 ⟨hq, kq⟩
      have r0 := cells_of_block hq 0 _ rfl
      have r1 := cells_of_block hq 1 _ rfl
      have r2 := cells_of_block hq 2 _ rfl
      have r3 := cells_of_block hq 3 _ rfl
      have r4 := cells_of_block hq 4 _ rfl
      have r5 := cells_of_block hq 5 _ rfl
      have r6 := cells_of_block hq 6 _ rfl
      have r7 := cells_of_block hq 7 _ rfl
      have r8 := cells_of_block hq 8 _ rfl
      have r9 := cells_of_block hq 9 _ rfl
      have r10 := cells_of_block hq 10 _ rfl
      have r11 := cells_of_block hq 11 _ rfl
      have r12 := cells_of_block hq 12 _ rfl
      have r13 := cells_of_block hq 13 _ rfl
      have r14 := cells_of_block hq 14 _ rfl
      have r15 := cells_of_block hq 15 _ rfl
      simp only [Nat.zero_add] at r0 r1 r2 r3 r4 r5 r6 r7 r8 r9 r10 r11 r12 r13 r14 r15
      clear hq
      have Xkq := Lib.hid kq
      clear kq
      refine bodyPost_ret (v := .agg #[.int .i64 k0, .int .i64 k1, .int .i64 k2, .int .i64 k3, .int .i64 k4, .int .i64 k5, .int .i64 k6, .int .i64 k7, .int .i64 k8, .int .i64 k9, .int .i64 k10, .int .i64 k11, .int .i64 k12, .int .i64 k13, .int .i64 k14, .int .i64 k15]) (by simp [results, Try.results52, go_sem, r0, r1, r2, r3, r4, r5, r6, r7, r8, r9, r10, r11, r12, r13, r14, r15]) rfl ⟨by rw [Xhans.out], Xkq.out⟩
end Go.Proofs

/- A region that draws its order, where two operations may come up. No program is named here. -/
namespace Go.Ink
open Go.RowKit
set_option linter.unusedVariables false
set_option linter.unusedSimpArgs false
section
variable {P : Program} {ops : Array Oper} {Q : Exit → Act → World → Prop} {md : Region.Mode} {S : World → Prop} {late : List Nat}

theorem wpOp_of_list {i : Nat} {oi : Oper} {a : Act} {w : World} {K : Act → World → Prop} (hi : ops[i]? = some oi) (h1 : wpList P ops (Exit.then K Q) [oi] a w) : wpOp P ops Q i K a w := by
  unfold wpOp
  rw [hi]
  unfold wpList at h1
  simp only at h1 ⊢
  split
  · rename_i hw
    rw [if_pos hw] at h1
    rcases h1 with h1 | h1
    · refine .inl ?_
      unfold Oper.wp at h1 ⊢
      generalize (execOp a.eval oi).run P w = r at h1 ⊢
      cases r with
      | ok n w' =>
        cases n <;> simp only [Oper.upon] at h1 ⊢
        case value u => exact h1
        case skip => exact h1
        case defer d => exact h1
        case enter f args => exact Calls.mono h1 fun e w'' he => by cases e <;> exact he
        case row row args => exact Rows.mono h1 fun u w'' he => he
      | halt x w' => cases x <;> simp only [Oper.upon] at h1 ⊢; exact h1
    · exact .inr h1
  · rename_i hw
    rw [if_neg hw] at h1
    exact h1

/-- Numbers i and j alone may come up: two ways. -/
theorem hoist_two {i j : Nat} {oi oj : Oper} {fuel : Nat} {listed : Array Bool} {a : Act} {w : World} (hi : ops[i]? = some oi) (hj : ops[j]? = some oj) (hr : Region.ready md ops listed = [i, j])
    (h1 : ∀ K : Act → World → Prop, (∀ a' w', (late.contains i = false → S w') → wpAnyL P md ops Q S late fuel (listed.setIfInBounds i true) a' w' → K a' w') → wpList P ops (Exit.then K Q) [oi] a w)
    (h2 : ∀ K : Act → World → Prop, (∀ a' w', (late.contains j = false → S w') → wpAnyL P md ops Q S late fuel (listed.setIfInBounds j true) a' w' → K a' w') → wpList P ops (Exit.then K Q) [oj] a w) :
    wpAnyL P md ops Q S late (fuel + 1) listed a w := by
  refine ⟨fun h0 => (by rw [hr] at h0; cases h0), fun k hk => ?_⟩
  rw [hr] at hk
  rcases List.mem_cons.1 hk with rfl | hk
  · exact wpOp_of_list hi (h1 (fun a' w' => (late.contains k = false → S w') ∧ wpAnyL P md ops Q S late fuel (listed.setIfInBounds k true) a' w') (fun a' w' x y => ⟨x, y⟩))
  · rcases List.mem_cons.1 hk with rfl | hk
    · exact wpOp_of_list hj (h2 (fun a' w' => (late.contains k = false → S w') ∧ wpAnyL P md ops Q S late fuel (listed.setIfInBounds k true) a' w') (fun a' w' x y => ⟨x, y⟩))
    · cases hk
end
end Go.Ink
