/- Layer 4, the program's relation: row (a list as a row of columns). -/
import Derived.Test.YtbaemcmagkmjiaaProg
import Derived.Test.YtbaemcmagkmjiaaRelN
import Derived.Deep.MidRow
namespace Go.Proofs
open Go.RowKit Go.Ink
set_option linter.unusedVariables false
set_option linter.unusedSimpArgs false
attribute [local go_sem] Oper.semAt_some

theorem setCells_chain (b : Nat) : ∀ (vs : List Value) (i : Nat) (w : World), World.setCells w b i vs = chain b vs i w
  | [], _, _ => rfl
  | v :: vs, i, w => setCells_chain b vs (i + 1) _
theorem setCells_full {b t : Nat} {fr : Nat × Nat} {w : World} {cs : Array Value} (vs : List Value) (h : w.heap[b]? = some (.cells cs t fr)) (hl : vs.length = cs.size) : (World.setCells w b 0 vs).heap[b]? = some (.cells vs.toArray t fr) := by
  rw [setCells_chain]; exact chain_full vs h hl
theorem setCells_keep (b : Nat) (vs : List Value) (i : Nat) (w : World) : Keep (fun j => j ≠ b) w (World.setCells w b i vs) := by
  rw [setCells_chain]; exact chain_keep b vs i w
theorem mask_len (l : List Int) : (maskOf l).length = 16 := by simp [maskOf]
theorem mask_set {l : List Int} {x : Int} (h0 : 0 ≤ x) (h16 : x < 16) : ((maskOf l).map Value.bool).toArray.setIfInBounds x.toNat (.bool true) = ((maskOf (l ++ [x])).map .bool).toArray := by
  apply Array.ext'
  simp only [Array.toList_setIfInBounds]
  rw [← List.map_set]
  congr 1
  apply List.ext_getElem?
  intro i
  simp only [maskOf, List.getElem?_set, List.getElem?_map, List.length_map, List.length_range]
  by_cases hi : x.toNat = i
  · subst hi
    rw [if_pos rfl, if_pos (by omega), List.getElem?_range (by omega)]
    have : ((x.toNat : Nat) : Int) = x := by omega
    simp [this]
  · rw [if_neg hi]
    cases hr : (List.range 16)[i]? with
    | none => rfl
    | some j =>
      have hj : j = i := by
        rw [List.getElem?_eq_some_iff] at hr
        obtain ⟨h1, h2⟩ := hr
        simpa using h2.symm
      subst hj
      have : ((j : Nat) : Int) ≠ x := by omega
      simp [this]
theorem mask_nil : maskOf [] = [false, false, false, false, false, false, false, false, false, false, false, false, false, false, false, false] := by simp [maskOf, List.range_succ]
/-- what row answers -/
def rowC (n : Nat) (l : List Int) : List Bool := if rowD n l = true then maskOf l else maskOf []
theorem rowD_step {n : Nat} {l : List Int} (hall : ∀ i, i < l.length → okAt n l i = true) : rowD n l = true := List.all_eq_true.2 fun i hi => hall i (by simpa using hi)

set_option maxRecDepth 100000 in
set_option maxHeartbeats 4000000 in
theorem row_any {w : World} {B n c P K : Nat} {vD : Value} (h : w.heap[B]? = some (.cells (relCells n vD c P K).toArray 79 (0, 0))) (hn : n ≤ 16) (m : Nat) (v : Value) (l : List Int) (hs : IntsIn m w v l) (hm : m ≤ w.heap.size) :
    Calls Try.prog 43 #[.pointer (some ⟨B, 0, none⟩), v] w fun e w' => e = .returned (.tuple #[colV (rowC n l), .bool (rowD n l)]) ∧ Keep (fun k => k < w.heap.size) w w' := by
  obtain ⟨a, cc, rfl, hlt, hct, het⟩ := id hs
  have hB := heap_lt h
  obtain ⟨W0, hW0⟩ : ∃ W0, (w.alloc (.cells #[.bool false, .bool false, .bool false, .bool false, .bool false, .bool false, .bool false, .bool false, .bool false, .bool false, .bool false, .bool false, .bool false, .bool false, .bool false, .bool false] 85)).alloc (.cells #[.bool false, .bool false, .bool false, .bool false, .bool false, .bool false, .bool false, .bool false, .bool false, .bool false, .bool false, .bool false, .bool false, .bool false, .bool false, .bool false] 85) = W0 := ⟨_, rfl⟩
  have k0' : Keep (fun _ => True) w W0 := by rw [← hW0]; exact (Keep.alloc _ _ _).trans (Keep.alloc _ _ _)
  have s0 : W0.heap.size = w.heap.size + 1 + 1 := by rw [← hW0]; simp
  have n1 : W0.heap[w.heap.size]? = some (.cells #[.bool false, .bool false, .bool false, .bool false, .bool false, .bool false, .bool false, .bool false, .bool false, .bool false, .bool false, .bool false, .bool false, .bool false, .bool false, .bool false] 85 (0, 0)) := by rw [← hW0]; exact old_block (new_block _ _) _
  have n2 : W0.heap[w.heap.size + 1]? = some (.cells ((maskOf (l.take 0)).map .bool).toArray 85 (0, 0)) := by rw [← hW0]; rw [List.take_zero, mask_nil]; simp only [alloc_get, World.size_alloc]; simp
  have hinfo : (Try.prog.info? 85).map (·.size) = some 16 := by kernel_rfl
  have Xh := Lib.hid h
  have Xhs := Lib.hid hs
  have Xhet := Lib.hid het
  have Xn1 := Lib.hid n1
  have Xn2 := Lib.hid n2
  have Xk0' := Lib.hid k0'
  have Xhinfo := Lib.hid hinfo
  clear h hs het n1 n2 k0' hinfo
  go_enter Try.func43, Try.ntmps43
  go_wp2_with fail
  go_loopw [12, 7] (fun i j wr => ∃ k : Nat, k ≤ l.length ∧ i = .int .i64 k ∧ j = .int .i64 (if k = 0 then -1 else l.getD (k - 1) 0) ∧ Keep (fun j => j ≠ w.heap.size + 1) W0 wr ∧ wr.heap[w.heap.size + 1]? = some (.cells ((maskOf (l.take k)).map .bool).toArray 85 (0, 0)) ∧ ∀ i, i < k → okAt n l i = true) (fun i j _ => l.length - (intOf i).toNat)
  case atStart => exact ⟨0, by omega, rfl, rfl, Keep.refl _ _, Xn2.out, fun i hi => by omega⟩
  case round =>
    obtain ⟨k, hk, rfl, rfl, hK, hblk, hall⟩ := hrel
    have hszk := hK.size
    have hK2 : Keep (fun j => j < w.heap.size) w wr := (Xk0'.out.mono fun _ _ _ => trivial).trans (hK.mono fun b _ h => by omega)
    have hbox := hK2.heap Xh.out hB
    have h0w := hK.heap Xn1.out (by omega)
    have c0 := cells_of_block hbox 0 _ rfl
    have hth : wr.there w.heap.size 0 16 := fun j hj => by
      rw [Nat.zero_add]
      refine ⟨?_, box_free h0w j⟩
      simp [World.cell?, h0w]
      omega
    simp only [Nat.zero_add] at c0
    have hBr : B < wr.heap.size := by omega
    have l1 : w.heap.size < wr.heap.size := by omega
    have l2 : w.heap.size + 1 < wr.heap.size := by omega
    by_cases hlt' : k < l.length
    · obtain ⟨x, hx⟩ : ∃ x, l[k]? = some x := ⟨_, List.getElem?_eq_getElem hlt'⟩
      obtain ⟨b, o, rfl, hb, hxa⟩ := Xhet.out k x hx
      have hxa := hK2.cell hxa (by simp only; omega)
      simp only [Nat.mul_one] at hxa
      have hbw : b < wr.heap.size := by omega
      have hlt1 : (k : Int) < l.length := by omega
      have hk0 : (0 : Int) ≤ k := by omega
      have hxd : l.getD k 0 = x := by rw [List.getD_eq_getElem?_getD, hx]; rfl
      obtain ⟨last, hlast⟩ : ∃ last, (if k = 0 then (-1 : Int) else l.getD (k - 1) 0) = last := ⟨_, rfl⟩
      have hlast0 : -1 ≤ last := by
        rw [← hlast]
        split
        · omega
        · have := hall (k - 1) (by omega)
          simp only [okAt, Bool.and_eq_true, decide_eq_true_eq] at this
          omega
      rw [hlast]
      have hok : okAt n l k = true ↔ last < x ∧ x < n := by
        simp only [okAt, Bool.and_eq_true, decide_eq_true_eq, Bool.or_eq_true, beq_iff_eq, hxd]
        rw [← hlast]
        by_cases h0 : k = 0
        · simp [h0]; omega
        · rw [if_neg h0]
          have := hall (k - 1) (by omega)
          simp only [okAt, Bool.and_eq_true, decide_eq_true_eq] at this
          constructor
          · rintro ⟨⟨q1, q2⟩, q3⟩
            exact ⟨q3.resolve_left h0, q2⟩
          · rintro ⟨q1, q2⟩
            exact ⟨⟨by omega, q2⟩, .inr q1⟩
      by_cases hgood : last < x ∧ x < n
      · obtain ⟨g1, g2⟩ := hgood
        have g3 : ¬ (x ≤ last) := by omega
        have g4 : ¬ ((n : Int) ≤ x) := by omega
        have g5 : (0 : Int) ≤ x := by omega
        have g6 : x < 16 := by omega
        have hset := set_at x.toNat (.bool true) hblk
        rw [mask_set g5 g6] at hset
        have hnext : l.take (k + 1) = l.take k ++ [x] := by rw [List.take_add_one, hx]; rfl
        rw [← hnext] at hset
        have hfr : wr.frozen? ⟨w.heap.size + 1, x.toNat, none⟩ = false := by simp [World.frozen?, hblk]
        obtain ⟨u0, hu0⟩ : ∃ u0, wr.cell? ⟨w.heap.size + 1, x.toNat, none⟩ = some u0 := by
          have hl2 : x.toNat < ((maskOf (l.take k)).map Value.bool).length := by rw [List.length_map, mask_len]; omega
          have := cells_of_block hblk x.toNat _ (by exact List.getElem?_eq_getElem hl2)
          rw [Nat.zero_add] at this
          exact ⟨_, this⟩
        have hall2 : ∀ i, i < k + 1 → okAt n l i = true := fun i hi => by
          rcases Nat.lt_or_ge i k with h1 | h1
          · exact hall i h1
          · have : i = k := by omega
            subst this
            exact hok.2 ⟨g1, g2⟩
        have hlast2 : (if k + 1 = 0 then (-1 : Int) else l.getD (k + 1 - 1) 0) = x := by rw [if_neg (by omega), Nat.add_sub_cancel]; exact hxd
        clear hok hall hbox h0w hblk hnext hx hxd hlast hth
        have Xhset := Lib.hid hset
        have XhK := Lib.hid hK
        have XhK2 := Lib.hid hK2
        have Xhall2 := Lib.hid hall2
        have Xhlast2 := Lib.hid hlast2
        clear hset hK hK2 hall2 hlast2
        go_wp2_with fail
        exact ⟨⟨k + 1, by omega, by simp, by rw [Xhlast2.out], XhK.out.trans (Keep.setCell _ _ _ (by simp)), Xhset.out, Xhall2.out⟩, by simp [intOf]; omega⟩
      · have hans : rowD n l = false := by
          rw [Bool.eq_false_iff]
          intro hrd
          exact hgood (hok.1 (List.all_eq_true.1 hrd k (by simpa using hlt')))
        have hcvb : colV (rowC n l) = .agg #[.bool false, .bool false, .bool false, .bool false, .bool false, .bool false, .bool false, .bool false, .bool false, .bool false, .bool false, .bool false, .bool false, .bool false, .bool false, .bool false] := by
          unfold rowC
          rw [hans, if_neg (by simp), mask_nil]
          rfl
        by_cases g1 : last < x
        · have g2 : (n : Int) ≤ x := by
            rcases Int.lt_or_le x n with h1 | h1
            · exact absurd ⟨g1, h1⟩ hgood
            · exact h1
          have g3 : ¬ (x ≤ last) := by omega
          clear hgood
          clear hok hall hbox hblk hx hxd hlast
          have Xh0w := Lib.hid h0w
          have XhK := Lib.hid hK
          have XhK2 := Lib.hid hK2
          have Xhans := Lib.hid hans
          have Xhcvb := Lib.hid hcvb
          have Xhth := Lib.hid hth
          clear h0w hK hK2 hans hcvb hth
          go_wp2_with (refine wpList_store_mid rfl 85 _ _ rfl w.heap.size 0 #[.bool false, .bool false, .bool false, .bool false, .bool false, .bool false, .bool false, .bool false, .bool false, .bool false, .bool false, .bool false, .bool false, .bool false, .bool false, .bool false] rfl rfl Xhth.out Xhinfo.out (by simp [Value.oneCell']) ?_)
          refine post_abs (fun W => W.heap[w.heap.size]? = some (.cells #[.bool false, .bool false, .bool false, .bool false, .bool false, .bool false, .bool false, .bool false, .bool false, .bool false, .bool false, .bool false, .bool false, .bool false, .bool false, .bool false] 85 (0, 0)) ∧ Keep (fun k => k < w.heap.size) w W) (w := World.setCells wr w.heap.size 0 [.bool false, .bool false, .bool false, .bool false, .bool false, .bool false, .bool false, .bool false, .bool false, .bool false, .bool false, .bool false, .bool false, .bool false, .bool false, .bool false]) ⟨setCells_full [.bool false, .bool false, .bool false, .bool false, .bool false, .bool false, .bool false, .bool false, .bool false, .bool false, .bool false, .bool false, .bool false, .bool false, .bool false, .bool false] Xh0w.out rfl, XhK2.out.trans ((setCells_keep _ _ _ _).mono (fun b _ h => by omega))⟩ ?_
          rintro W2 ⟨hq, kq⟩
          have r0 := cells_of_block hq 0 _ rfl
          have r1 := cells_of_block hq 1 _ rfl
          have r2 := cells_of_block hq 2 _ rfl
          have r3 := cells_of_block hq 3 _ rfl
          have r4 := cells_of_block hq 4 _ rfl
          have r5 := cells_of_block hq 5 _ rfl
          have r6 := cells_of_block hq 6 _ rfl
          have r7 := cells_of_block hq 7 _ rfl
          have r8 := cells_of_block hq 8 _ rfl
          have r9 := cells_of_block hq 9 _ rfl
          have r10 := cells_of_block hq 10 _ rfl
          have r11 := cells_of_block hq 11 _ rfl
          have r12 := cells_of_block hq 12 _ rfl
          have r13 := cells_of_block hq 13 _ rfl
          have r14 := cells_of_block hq 14 _ rfl
          have r15 := cells_of_block hq 15 _ rfl
          simp only [Nat.zero_add] at r0 r1 r2 r3 r4 r5 r6 r7 r8 r9 r10 r11 r12 r13 r14 r15
          clear hq
          have Xkq := Lib.hid kq
          clear kq
          refine bodyPost_ret (v := .tuple #[.agg #[.bool false, .bool false, .bool false, .bool false, .bool false, .bool false, .bool false, .bool false, .bool false, .bool false, .bool false, .bool false, .bool false, .bool false, .bool false, .bool false], .bool false]) (by simp [results, Try.results43, go_sem, r0, r1, r2, r3, r4, r5, r6, r7, r8, r9, r10, r11, r12, r13, r14, r15]) rfl ⟨by rw [Xhcvb.out, Xhans.out], Xkq.out⟩
        · have g3 : x ≤ last := by omega
          clear hgood g1
          clear hok hall hbox hblk hx hxd hlast
          have Xh0w := Lib.hid h0w
          have XhK := Lib.hid hK
          have XhK2 := Lib.hid hK2
          have Xhans := Lib.hid hans
          have Xhcvb := Lib.hid hcvb
          have Xhth := Lib.hid hth
          clear h0w hK hK2 hans hcvb hth
          go_wp2_with (refine wpList_store_mid rfl 85 _ _ rfl w.heap.size 0 #[.bool false, .bool false, .bool false, .bool false, .bool false, .bool false, .bool false, .bool false, .bool false, .bool false, .bool false, .bool false, .bool false, .bool false, .bool false, .bool false] rfl rfl Xhth.out Xhinfo.out (by simp [Value.oneCell']) ?_)
          refine post_abs (fun W => W.heap[w.heap.size]? = some (.cells #[.bool false, .bool false, .bool false, .bool false, .bool false, .bool false, .bool false, .bool false, .bool false, .bool false, .bool false, .bool false, .bool false, .bool false, .bool false, .bool false] 85 (0, 0)) ∧ Keep (fun k => k < w.heap.size) w W) (w := World.setCells wr w.heap.size 0 [.bool false, .bool false, .bool false, .bool false, .bool false, .bool false, .bool false, .bool false, .bool false, .bool false, .bool false, .bool false, .bool false, .bool false, .bool false, .bool false]) ⟨setCells_full [.bool false, .bool false, .bool false, .bool false, .bool false, .bool false, .bool false, .bool false, .bool false, .bool false, .bool false, .bool false, .bool false, .bool false, .bool false, .bool false] Xh0w.out rfl, XhK2.out.trans ((setCells_keep _ _ _ _).mono (fun b _ h => by omega))⟩ ?_
          rintro W2 ⟨hq, kq⟩
          have r0 := cells_of_block hq 0 _ rfl
          have r1 := cells_of_block hq 1 _ rfl
          have r2 := cells_of_block hq 2 _ rfl
          have r3 := cells_of_block hq 3 _ rfl
          have r4 := cells_of_block hq 4 _ rfl
          have r5 := cells_of_block hq 5 _ rfl
          have r6 := cells_of_block hq 6 _ rfl
          have r7 := cells_of_block hq 7 _ rfl
          have r8 := cells_of_block hq 8 _ rfl
          have r9 := cells_of_block hq 9 _ rfl
          have r10 := cells_of_block hq 10 _ rfl
          have r11 := cells_of_block hq 11 _ rfl
          have r12 := cells_of_block hq 12 _ rfl
          have r13 := cells_of_block hq 13 _ rfl
          have r14 := cells_of_block hq 14 _ rfl
          have r15 := cells_of_block hq 15 _ rfl
          simp only [Nat.zero_add] at r0 r1 r2 r3 r4 r5 r6 r7 r8 r9 r10 r11 r12 r13 r14 r15
          clear hq
          have Xkq := Lib.hid kq
          clear kq
          refine bodyPost_ret (v := .tuple #[.agg #[.bool false, .bool false, .bool false, .bool false, .bool false, .bool false, .bool false, .bool false, .bool false, .bool false, .bool false, .bool false, .bool false, .bool false, .bool false, .bool false], .bool false]) (by simp [results, Try.results43, go_sem, r0, r1, r2, r3, r4, r5, r6, r7, r8, r9, r10, r11, r12, r13, r14, r15]) rfl ⟨by rw [Xhcvb.out, Xhans.out], Xkq.out⟩
    · generalize (if k = 0 then (-1 : Int) else l.getD (k - 1) 0) = last
      obtain rfl : k = l.length := by omega
      rw [List.take_length] at hblk
      have hans : rowD n l = true := rowD_step hall
      obtain ⟨k0, k1, k2, k3, k4, k5, k6, k7, k8, k9, k10, k11, k12, k13, k14, k15, hpad⟩ : ∃ k0 k1 k2 k3 k4 k5 k6 k7 k8 k9 k10 k11 k12 k13 k14 k15, maskOf l = [k0, k1, k2, k3, k4, k5, k6, k7, k8, k9, k10, k11, k12, k13, k14, k15] := by
        have hlen := mask_len l
        match h : maskOf l, hlen with
        | [k0, k1, k2, k3, k4, k5, k6, k7, k8, k9, k10, k11, k12, k13, k14, k15], _ => exact ⟨k0, k1, k2, k3, k4, k5, k6, k7, k8, k9, k10, k11, k12, k13, k14, k15, rfl⟩
      have hcv : colV (rowC n l) = .agg #[.bool k0, .bool k1, .bool k2, .bool k3, .bool k4, .bool k5, .bool k6, .bool k7, .bool k8, .bool k9, .bool k10, .bool k11, .bool k12, .bool k13, .bool k14, .bool k15] := by unfold rowC; rw [hans, if_pos rfl, hpad]; rfl
      rw [hpad] at hblk
      have hbw : wr.heap[w.heap.size + 1]? = some (.cells #[.bool k0, .bool k1, .bool k2, .bool k3, .bool k4, .bool k5, .bool k6, .bool k7, .bool k8, .bool k9, .bool k10, .bool k11, .bool k12, .bool k13, .bool k14, .bool k15] 85 (0, 0)) := hblk
      have c1 := cells_of_block hbw 0 _ rfl
      have c2 := cells_of_block hbw 1 _ rfl
      have c3 := cells_of_block hbw 2 _ rfl
      have c4 := cells_of_block hbw 3 _ rfl
      have c5 := cells_of_block hbw 4 _ rfl
      have c6 := cells_of_block hbw 5 _ rfl
      have c7 := cells_of_block hbw 6 _ rfl
      have c8 := cells_of_block hbw 7 _ rfl
      have c9 := cells_of_block hbw 8 _ rfl
      have c10 := cells_of_block hbw 9 _ rfl
      have c11 := cells_of_block hbw 10 _ rfl
      have c12 := cells_of_block hbw 11 _ rfl
      have c13 := cells_of_block hbw 12 _ rfl
      have c14 := cells_of_block hbw 13 _ rfl
      have c15 := cells_of_block hbw 14 _ rfl
      have c16 := cells_of_block hbw 15 _ rfl
      simp only [Nat.zero_add] at c1 c2 c3 c4 c5 c6 c7 c8 c9 c10 c11 c12 c13 c14 c15 c16
      clear hblk hpad hbw hall hbox
      have Xh0w := Lib.hid h0w
      have XhK := Lib.hid hK
      have XhK2 := Lib.hid hK2
      have Xhans := Lib.hid hans
      have Xhcv := Lib.hid hcv
      have Xhth := Lib.hid hth
      clear h0w hK hK2 hans hcv hth
      go_wp2_with (refine wpList_store_mid rfl 85 _ _ rfl w.heap.size 0 #[.bool k0, .bool k1, .bool k2, .bool k3, .bool k4, .bool k5, .bool k6, .bool k7, .bool k8, .bool k9, .bool k10, .bool k11, .bool k12, .bool k13, .bool k14, .bool k15] rfl rfl Xhth.out Xhinfo.out (by simp [Value.oneCell']) ?_)
      refine post_abs (fun W => W.heap[w.heap.size]? = some (.cells #[.bool k0, .bool k1, .bool k2, .bool k3, .bool k4, .bool k5, .bool k6, .bool k7, .bool k8, .bool k9, .bool k10, .bool k11, .bool k12, .bool k13, .bool k14, .bool k15] 85 (0, 0)) ∧ Keep (fun k => k < w.heap.size) w W) (w := World.setCells wr w.heap.size 0 [.bool k0, .bool k1, .bool k2, .bool k3, .bool k4, .bool k5, .bool k6, .bool k7, .bool k8, .bool k9, .bool k10, .bool k11, .bool k12, .bool k13, .bool k14, .bool k15]) ⟨setCells_full [.bool k0, .bool k1, .bool k2, .bool k3, .bool k4, .bool k5, .bool k6, .bool k7, .bool k8, .bool k9, .bool k10, .bool k11, .bool k12, .bool k13, .bool k14, .bool k15] Xh0w.out rfl, XhK2.out.trans ((setCells_keep _ _ _ _).mono (fun b _ h => by omega))⟩ ?_
      rintro W2 ⟨hq, kq⟩
      have r0 := cells_of_block hq 0 _ rfl
      have r1 := cells_of_block hq 1 _ rfl
      have r2 := cells_of_block hq 2 _ rfl
      have r3 := cells_of_block hq 3 _ rfl
      have r4 := cells_of_block hq 4 _ rfl
      have r5 := cells_of_block hq 5 _ rfl
      have r6 := cells_of_block hq 6 _ rfl
      have r7 := cells_of_block hq 7 _ rfl
      have r8 := cells_of_block hq 8 _ rfl
      have r9 := cells_of_block hq 9 _ rfl
      have r10 := cells_of_block hq 10 _ rfl
      have r11 := cells_of_block hq 11 _ rfl
      have r12 := cells_of_block hq 12 _ rfl
      have r13 := cells_of_block hq 13 _ rfl
      have r14 := cells_of_block hq 14 _ rfl
      have r15 := cells_of_block hq 15 _ rfl
      simp only [Nat.zero_add] at r0 r1 r2 r3 r4 r5 r6 r7 r8 r9 r10 r11 r12 r13 r14 r15
      clear hq
      have Xkq := Lib.hid kq
      clear kq
      refine bodyPost_ret (v := .tuple #[.agg #[.bool k0, .bool k1, .bool k2, .bool k3, .bool k4, .bool k5, .bool k6, .bool k7, .bool k8, .bool k9, .bool k10, .bool k11, .bool k12, .bool k13, .bool k14, .bool k15], .bool true]) (by simp [results, Try.results43, go_sem, r0, r1, r2, r3, r4, r5, r6, r7, r8, r9, r10, r11, r12, r13, r14, r15]) rfl ⟨by rw [Xhcv.out, Xhans.out], Xkq.out⟩
end Go.Proofs
