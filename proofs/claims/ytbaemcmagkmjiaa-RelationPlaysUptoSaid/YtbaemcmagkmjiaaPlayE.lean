/- Layer 4, the law RelationPlays: Distinct of the document's relation. -/
import Derived.Test.YtbaemcmagkmjiaaProg
import Derived.Test.YtbaemcmagkmjiaaRelEE
import Derived.Test.YtbaemcmagkmjiaaOwnToRowC
namespace Go.Proofs
open Go.RowKit Go.Ink
set_option linter.unusedVariables false
set_option linter.unusedSimpArgs false
attribute [local go_sem] Oper.semAt_some

/-- is it none of these? -/
def freshB (x : List Int) (l : List (List Int)) : Bool := decide (x ∉ l)
theorem fresh_nil (x : List Int) : freshB x [] = true := by simp [freshB]
theorem fresh_yes {x : List Int} {l : List (List Int)} (h : x ∉ l) : freshB x l = true := decide_eq_true h
theorem fresh_no {x : List Int} {l : List (List Int)} (h : x ∈ l) : freshB x l = false := decide_eq_false (fun h' => h' h)
theorem fresh_snoc {x y : List Int} {l : List (List Int)} (h : x ∉ l) : freshB x (l ++ [y]) = !(decide (x = y)) := by
  by_cases hy : x = y
  · rw [decide_eq_true hy, fresh_no (by rw [List.mem_append, hy]; simp)]; rfl
  · rw [decide_eq_false hy, fresh_yes (fun h' => by rw [List.mem_append, List.mem_singleton] at h'; exact h'.elim h hy)]; rfl

set_option maxRecDepth 100000 in
set_option maxHeartbeats 4000000 in
theorem refDistinct_any {w : World} {B n0 n : Nat} {ts : List (List Int)} {vL : Value} (h : RefAt w B n0 n ts vL) (hts : ∀ t, t ∈ ts → t.length = n) (hn : n ≤ 16) (m : Nat) (vc : Value) (cols : List Int) (hc : IntsIn m w vc cols) (hm : m ≤ w.heap.size) :
    Calls Try.prog 47 #[.pointer (some ⟨B, 0, none⟩), vc] w fun e w' => e = .returned (.tuple #[.int .i64 (distD n ts cols).1, .int .i64 (distD n ts cols).2]) ∧ Keep (fun k => k < w.heap.size) w w' := by
  obtain ⟨ac, cc, rfl, hlc, hcc, hec⟩ := id hc
  obtain ⟨aL, cL, rfl, hlL, hcL, heL⟩ := id h.l
  have hB := heap_lt h.box
  have hn0 := h.lw
  clear hec
  have Xh := Lib.hid h
  have Xhc := Lib.hid hc
  have Xhts := Lib.hid hts
  have XheL := Lib.hid heL
  clear h hc hts heL
  go_enter Try.func47, Try.ntmps47
  go_wp2_with fail
  refine (refRow_any Xh.out m _ cols Xhc.out hm).mono ?_
  rintro e W1 ⟨rfl, k1⟩
  have z1 := k1.size
  cases hrow : rowD n cols with
  | false =>
    have hans : distD n ts cols = (0, 2) := by unfold distD; rw [hrow]; rfl
    clear hrow
    have Xk1 := Lib.hid k1
    have Xhans := Lib.hid hans
    clear k1 hans
    go_wp2_with fail
    go_ret2
    exact ⟨by rw [Xhans.out]; rfl, Xk1.out.mono fun _ _ _ => trivial⟩
  | true =>
    obtain ⟨L, hL⟩ : ∃ L : List (List Int), (ts.map fun t => cutL t cols) = L := ⟨_, rfl⟩
    have hLn : L.length = ts.length := by rw [← hL]; simp
    have hans : distD n ts cols = (((dd L).length : Int), 0) := by unfold distD; rw [hrow, hL]; rfl
    have hcl16 : cols.length ≤ 16 := by have := rowD_len hrow; omega
    have Xk1 := Lib.hid k1
    have Xhans := Lib.hid hans
    have Xhrow := Lib.hid hrow
    have XhL := Lib.hid hL
    have XhLn := Lib.hid hLn
    clear k1 hans hrow hL hLn
    go_wp2_with fail
    go_loopw [6, 7] (fun q i wr => ∃ k : Nat, k ≤ ts.length ∧ i = .int .i64 (k : Int) ∧ q = .int .i64 ((dd (L.take k)).length : Int) ∧ Keep (fun b => b < w.heap.size) w wr) (fun _ i _ => ts.length - (intOf i).toNat)
    case atStart => exact ⟨0, by omega, rfl, by simp [dd], Xk1.out.mono fun _ _ _ => trivial⟩
    case round =>
      obtain ⟨k, hk, rfl, rfl, hK⟩ := hrel
      have hszk := hK.size
      have hr : RefAt wr B n0 n ts (.slice aL ts.length cL) := Xh.out.keep (m := w.heap.size) hK hn0 hB
      have c1 := cells_of_block hr.box 1 _ rfl
      simp only [Nat.zero_add] at c1
      have hBr : B < wr.heap.size := by omega
      have hdn : (dd (L.take k)).length ≤ k := Nat.le_trans (dd_len _) (by rw [List.length_take]; omega)
      have hLn' := XhLn.out
      clear hr
      by_cases hlt : k < ts.length
      · obtain ⟨t, ht⟩ : ∃ t, ts[k]? = some t := ⟨_, List.getElem?_eq_getElem hlt⟩
        have htn : t.length = n := Xhts.out t (List.mem_of_getElem? ht)
        have hLk : L[k]? = some (cutL t cols) := by rw [← XhL.out, List.getElem?_map, ht]; rfl
        obtain ⟨bi, oi, rfl, hbi, svi, hsi, hii⟩ := XheL.out k t ht
        obtain ⟨ai, ci, rfl, hli, hci, hei⟩ := id hii
        have hlt1 : (k : Int) < ts.length := by omega
        have hk0 : (0 : Int) ≤ k := by omega
        obtain ⟨dq, hdq⟩ : ∃ dq, (dd (L.take k)).length = dq := ⟨_, rfl⟩
        rw [hdq] at hdn
        rw [hdq]
        clear hei
        have XhK := Lib.hid hK
        have Xht := Lib.hid ht
        have XhLk := Lib.hid hLk
        have Xhsi := Lib.hid hsi
        have Xhii := Lib.hid hii
        have Xhdq := Lib.hid hdq
        have XhLn' := Lib.hid hLn'
        have Xhtn := Lib.hid htn
        clear hK ht hLk hsi hii hdq hLn' htn
        go_wp2_with fail
        go_loopw [8, 9] (fun f j wx => ∃ q : Nat, q ≤ k ∧ j = .int .i64 (q : Int) ∧ f = .bool (freshB (cutL t cols) (L.take q)) ∧ Keep (fun b => b < w.heap.size) w wx) (fun _ j _ => k - (intOf j).toNat)
        case atStart => exact ⟨0, by omega, rfl, by rw [List.take_zero, fresh_nil], XhK.out⟩
        case round =>
          obtain ⟨q, hq, rfl, rfl, hKx⟩ := hrel
          have hszx := hKx.size
          by_cases hql : q < k
          · obtain ⟨s, hs⟩ : ∃ s, ts[q]? = some s := ⟨_, List.getElem?_eq_getElem (by omega)⟩
            have hsn : s.length = n := Xhts.out s (List.mem_of_getElem? hs)
            have hLq : L[q]? = some (cutL s cols) := by rw [← XhL.out, List.getElem?_map, hs]; rfl
            have Xhsn := Lib.hid hsn
            clear hsn
            obtain ⟨b2, o2, e2, hb2, sv2, hs2, hi2⟩ := XheL.out q s hs
            injection e2 with e2
            injection e2 with e3 e4
            subst e3 e4
            obtain ⟨a2, c2, rfl, hl2, hcc2, he2⟩ := id hi2
            have hr : RefAt wr B n0 n ts (.slice (some ⟨bi, oi, none⟩) ts.length cL) := Xh.out.keep (m := w.heap.size) hKx hn0 hB
            have y0 := cells_of_block hr.box 1 _ rfl
            have y1 := hKx.cell Xhsi.out (by simp only; omega)
            have y2 := hKx.cell hs2 (by simp only; omega)
            simp only [Nat.zero_add, Nat.mul_one] at y0 y1 y2
            have hBx : B < wr.heap.size := by omega
            have hbx : bi < wr.heap.size := by omega
            have hql1 : (q : Int) < k := by omega
            have hql2 : (q : Int) < ts.length := by omega
            have hq0 : (0 : Int) ≤ q := by omega
            have hd1 : decide ((q : Int) < 0) = false := decide_eq_false (by omega)
            have hd2 : decide ((ts.length : Int) ≤ q) = false := decide_eq_false (by omega)
            have hd3 : decide (ts.length ≤ q) = false := decide_eq_false (by omega)
            have hd4 : decide ((k : Int) < 0) = false := decide_eq_false (by omega)
            have hd5 : decide ((ts.length : Int) ≤ k) = false := decide_eq_false (by omega)
            have hd6 : decide (ts.length ≤ k) = false := decide_eq_false (by omega)
            have htk : L.take (q + 1) = L.take q ++ [cutL s cols] := by rw [List.take_add_one, hLq]; rfl
            clear hr he2
            by_cases hin : cutL t cols ∈ L.take q
            · have hdq := fresh_no hin
              have hdn : freshB (cutL t cols) (L.take (q + 1)) = false := fresh_no (by rw [htk, List.mem_append]; exact .inl hin)
              rw [hdq]
              clear hin hdq
              have XhKx := Lib.hid hKx
              have Xhs2 := Lib.hid hs2
              have Xhi2 := Lib.hid hi2
              have Xhs := Lib.hid hs
              have XhLq := Lib.hid hLq
              have Xhdn := Lib.hid hdn
              have Xhtk := Lib.hid htk
              have Xy0 := Lib.hid y0
              have Xy1 := Lib.hid y1
              have Xy2 := Lib.hid y2
              clear hKx hs2 hi2 hs hLq hdn htk y0 y1 y2
              go_wp2_with fail
              go_region
              go_wp2_with fail
              go_roundw
              case rel => exact ⟨q + 1, by omega, by go_num, by rw [Xhdn.out], XhKx.out.trans (Keep.drew _ _)⟩
              case measure => simp [intOf]; omega
            · have hdq := fresh_yes hin
              have hdn : freshB (cutL t cols) (L.take (q + 1)) = !(decide (cutL t cols = cutL s cols)) := by rw [htk]; exact fresh_snoc hin
              rw [hdq]
              clear hin hdq
              have hKd : Keep (fun b => b < w.heap.size) w wr.drew := hKx.trans (Keep.drew _ _)
              have ic1 := ints_wider (ints_stay Xhc.out (m := m) (hKd.mono fun b _ h => by omega) (Nat.le_refl _)) (show m ≤ wr.drew.heap.size by simp; omega)
              have ii1 := ints_wider (ints_stay Xhii.out (m := n0) (hKd.mono fun b _ h => by omega) (Nat.le_refl _)) (show n0 ≤ wr.drew.heap.size by simp; omega)
              have ij1 := ints_wider (ints_stay hi2 (m := n0) (hKd.mono fun b _ h => by omega) (Nat.le_refl _)) (show n0 ≤ wr.drew.heap.size by simp; omega)
              have hcut1 := refCut_any wr.drew.heap.size _ _ t cols wr.drew ii1 ic1 (Nat.le_refl _) (fun c hc => by have := rowD_at Xhrow.out c hc; have := Xhtn.out; omega)
              have XhKx := Lib.hid hKx
              have Xhs2 := Lib.hid hs2
              have Xhi2 := Lib.hid hi2
              have Xhs := Lib.hid hs
              have XhLq := Lib.hid hLq
              have Xhdn := Lib.hid hdn
              have Xhtk := Lib.hid htk
              have XhKd := Lib.hid hKd
              have Xic1 := Lib.hid ic1
              have Xii1 := Lib.hid ii1
              have Xij1 := Lib.hid ij1
              have Xhcut1 := Lib.hid hcut1
              clear hKx hs2 hi2 hs hLq hdn htk hKd ic1 ii1 ij1 hcut1
              go_wp2_with fail
              refine region_hoist rfl (fun W : World => W.cell? ⟨B, 1, none⟩ = some (.slice (some ⟨bi, oi, none⟩) ts.length cL) ∧ W.cell? ⟨bi, oi + k, none⟩ = some (.slice ai t.length ci) ∧ W.cell? ⟨bi, oi + q, none⟩ = some (.slice a2 s.length c2)) [23] ?_
              have XhS0 := Lib.hid (And.intro y0 (And.intro y1 y2))
              clear y0 y1 y2
              refine hoist_take (i := 0) (v := ?_) rfl (by kernel_rfl) (by kernel_rfl) (by kernel_rfl) (by kernel_rfl) (fun _ _ _ h => h) XhS0.out (Or.inl ⟨by kernel_rfl, ?_⟩) ?_
              rotate_left
              · intro Wq hWq
                obtain ⟨x0, x1, x2⟩ := hWq
                go_simp
                try simp only [hd1, hd2, hd3, hd4, hd5, hd6]
                try with_reducible rfl
              try simp only [Act.put, List.getElem_toArray, List.getElem_cons_zero, List.getElem_cons_succ, List.setIfInBounds_toArray, List.set_cons_zero, List.set_cons_succ]
              refine hoist_take (i := 1) (v := ?_) rfl (by kernel_rfl) (by kernel_rfl) (by kernel_rfl) (by kernel_rfl) (fun _ _ _ h => h) XhS0.out (Or.inl ⟨by kernel_rfl, ?_⟩) ?_
              rotate_left
              · intro Wq hWq
                obtain ⟨x0, x1, x2⟩ := hWq
                go_simp
                try simp only [hd1, hd2, hd3, hd4, hd5, hd6]
                try with_reducible rfl
              try simp only [Act.put, List.getElem_toArray, List.getElem_cons_zero, List.getElem_cons_succ, List.setIfInBounds_toArray, List.set_cons_zero, List.set_cons_succ]
              refine hoist_take (i := 2) (v := ?_) rfl (by kernel_rfl) (by kernel_rfl) (by kernel_rfl) (by kernel_rfl) (fun _ _ _ h => h) XhS0.out (Or.inl ⟨by kernel_rfl, ?_⟩) ?_
              rotate_left
              · intro Wq hWq
                obtain ⟨x0, x1, x2⟩ := hWq
                go_simp
                try simp only [hd1, hd2, hd3, hd4, hd5, hd6]
                try with_reducible rfl
              try simp only [Act.put, List.getElem_toArray, List.getElem_cons_zero, List.getElem_cons_succ, List.setIfInBounds_toArray, List.set_cons_zero, List.set_cons_succ]
              refine hoist_take (i := 3) (v := ?_) rfl (by kernel_rfl) (by kernel_rfl) (by kernel_rfl) (by kernel_rfl) (fun _ _ _ h => h) XhS0.out (Or.inl ⟨by kernel_rfl, ?_⟩) ?_
              rotate_left
              · intro Wq hWq
                obtain ⟨x0, x1, x2⟩ := hWq
                go_simp
                try simp only [hd1, hd2, hd3, hd4, hd5, hd6]
                try with_reducible rfl
              try simp only [Act.put, List.getElem_toArray, List.getElem_cons_zero, List.getElem_cons_succ, List.setIfInBounds_toArray, List.set_cons_zero, List.set_cons_succ]
              refine hoist_take (i := 4) (v := ?_) rfl (by kernel_rfl) (by kernel_rfl) (by kernel_rfl) (by kernel_rfl) (fun _ _ _ h => h) XhS0.out (Or.inl ⟨by kernel_rfl, ?_⟩) ?_
              rotate_left
              · intro Wq hWq
                obtain ⟨x0, x1, x2⟩ := hWq
                go_simp
                try simp only [hd1, hd2, hd3, hd4, hd5, hd6]
                try with_reducible rfl
              try simp only [Act.put, List.getElem_toArray, List.getElem_cons_zero, List.getElem_cons_succ, List.setIfInBounds_toArray, List.set_cons_zero, List.set_cons_succ]
              refine hoist_take (i := 5) (v := ?_) rfl (by kernel_rfl) (by kernel_rfl) (by kernel_rfl) (by kernel_rfl) (fun _ _ _ h => h) XhS0.out (Or.inl ⟨by kernel_rfl, ?_⟩) ?_
              rotate_left
              · intro Wq hWq
                obtain ⟨x0, x1, x2⟩ := hWq
                go_simp
                try simp only [hd1, hd2, hd3, hd4, hd5, hd6]
                try with_reducible rfl
              try simp only [Act.put, List.getElem_toArray, List.getElem_cons_zero, List.getElem_cons_succ, List.setIfInBounds_toArray, List.set_cons_zero, List.set_cons_succ]
              refine hoist_take (i := 6) (v := ?_) rfl (by kernel_rfl) (by kernel_rfl) (by kernel_rfl) (by kernel_rfl) (fun _ _ _ h => h) XhS0.out (Or.inl ⟨by kernel_rfl, ?_⟩) ?_
              rotate_left
              · intro Wq hWq
                obtain ⟨x0, x1, x2⟩ := hWq
                go_simp
                try simp only [hd1, hd2, hd3, hd4, hd5, hd6]
                try with_reducible rfl
              try simp only [Act.put, List.getElem_toArray, List.getElem_cons_zero, List.getElem_cons_succ, List.setIfInBounds_toArray, List.set_cons_zero, List.set_cons_succ]
              refine hoist_take (i := 7) (v := ?_) rfl (by kernel_rfl) (by kernel_rfl) (by kernel_rfl) (by kernel_rfl) (fun _ _ _ h => h) XhS0.out (Or.inl ⟨by kernel_rfl, ?_⟩) ?_
              rotate_left
              · intro Wq hWq
                obtain ⟨x0, x1, x2⟩ := hWq
                go_simp
                try simp only [hd1, hd2, hd3, hd4, hd5, hd6]
                try with_reducible rfl
              try simp only [Act.put, List.getElem_toArray, List.getElem_cons_zero, List.getElem_cons_succ, List.setIfInBounds_toArray, List.set_cons_zero, List.set_cons_succ]
              refine hoist_take (i := 8) (v := ?_) rfl (by kernel_rfl) (by kernel_rfl) (by kernel_rfl) (by kernel_rfl) (fun _ _ _ h => h) XhS0.out (Or.inl ⟨by kernel_rfl, ?_⟩) ?_
              rotate_left
              · intro Wq hWq
                obtain ⟨x0, x1, x2⟩ := hWq
                go_simp
                try simp only [hd1, hd2, hd3, hd4, hd5, hd6]
                try with_reducible rfl
              try simp only [Act.put, List.getElem_toArray, List.getElem_cons_zero, List.getElem_cons_succ, List.setIfInBounds_toArray, List.set_cons_zero, List.set_cons_succ]
              refine hoist_take (i := 9) (v := ?_) rfl (by kernel_rfl) (by kernel_rfl) (by kernel_rfl) (by kernel_rfl) (fun _ _ _ h => h) XhS0.out (Or.inl ⟨by kernel_rfl, ?_⟩) ?_
              rotate_left
              · intro Wq hWq
                obtain ⟨x0, x1, x2⟩ := hWq
                go_simp
                try simp only [hd1, hd2, hd3, hd4, hd5, hd6]
                try with_reducible rfl
              try simp only [Act.put, List.getElem_toArray, List.getElem_cons_zero, List.getElem_cons_succ, List.setIfInBounds_toArray, List.set_cons_zero, List.set_cons_succ]
              refine hoist_take (i := 11) (v := ?_) rfl (by kernel_rfl) (by kernel_rfl) (by kernel_rfl) (by kernel_rfl) (fun _ _ _ h => h) XhS0.out (Or.inl ⟨by kernel_rfl, ?_⟩) ?_
              rotate_left
              · intro Wq hWq
                obtain ⟨x0, x1, x2⟩ := hWq
                go_simp
                try simp only [hd1, hd2, hd3, hd4, hd5, hd6]
                try with_reducible rfl
              try simp only [Act.put, List.getElem_toArray, List.getElem_cons_zero, List.getElem_cons_succ, List.setIfInBounds_toArray, List.set_cons_zero, List.set_cons_succ]
              refine hoist_take (i := 12) (v := ?_) rfl (by kernel_rfl) (by kernel_rfl) (by kernel_rfl) (by kernel_rfl) (fun _ _ _ h => h) XhS0.out (Or.inl ⟨by kernel_rfl, ?_⟩) ?_
              rotate_left
              · intro Wq hWq
                obtain ⟨x0, x1, x2⟩ := hWq
                go_simp
                try simp only [hd1, hd2, hd3, hd4, hd5, hd6]
                try with_reducible rfl
              try simp only [Act.put, List.getElem_toArray, List.getElem_cons_zero, List.getElem_cons_succ, List.setIfInBounds_toArray, List.set_cons_zero, List.set_cons_succ]
              refine hoist_take (i := 13) (v := ?_) rfl (by kernel_rfl) (by kernel_rfl) (by kernel_rfl) (by kernel_rfl) (fun _ _ _ h => h) XhS0.out (Or.inl ⟨by kernel_rfl, ?_⟩) ?_
              rotate_left
              · intro Wq hWq
                obtain ⟨x0, x1, x2⟩ := hWq
                go_simp
                try simp only [hd1, hd2, hd3, hd4, hd5, hd6]
                try with_reducible rfl
              try simp only [Act.put, List.getElem_toArray, List.getElem_cons_zero, List.getElem_cons_succ, List.setIfInBounds_toArray, List.set_cons_zero, List.set_cons_succ]
              refine hoist_take (i := 14) (v := ?_) rfl (by kernel_rfl) (by kernel_rfl) (by kernel_rfl) (by kernel_rfl) (fun _ _ _ h => h) XhS0.out (Or.inl ⟨by kernel_rfl, ?_⟩) ?_
              rotate_left
              · intro Wq hWq
                obtain ⟨x0, x1, x2⟩ := hWq
                go_simp
                try simp only [hd1, hd2, hd3, hd4, hd5, hd6]
                try with_reducible rfl
              try simp only [Act.put, List.getElem_toArray, List.getElem_cons_zero, List.getElem_cons_succ, List.setIfInBounds_toArray, List.set_cons_zero, List.set_cons_succ]
              refine hoist_take (i := 15) (v := ?_) rfl (by kernel_rfl) (by kernel_rfl) (by kernel_rfl) (by kernel_rfl) (fun _ _ _ h => h) XhS0.out (Or.inl ⟨by kernel_rfl, ?_⟩) ?_
              rotate_left
              · intro Wq hWq
                obtain ⟨x0, x1, x2⟩ := hWq
                go_simp
                try simp only [hd1, hd2, hd3, hd4, hd5, hd6]
                try with_reducible rfl
              try simp only [Act.put, List.getElem_toArray, List.getElem_cons_zero, List.getElem_cons_succ, List.setIfInBounds_toArray, List.set_cons_zero, List.set_cons_succ]
              refine hoist_take (i := 16) (v := ?_) rfl (by kernel_rfl) (by kernel_rfl) (by kernel_rfl) (by kernel_rfl) (fun _ _ _ h => h) XhS0.out (Or.inl ⟨by kernel_rfl, ?_⟩) ?_
              rotate_left
              · intro Wq hWq
                obtain ⟨x0, x1, x2⟩ := hWq
                go_simp
                try simp only [hd1, hd2, hd3, hd4, hd5, hd6]
                try with_reducible rfl
              try simp only [Act.put, List.getElem_toArray, List.getElem_cons_zero, List.getElem_cons_succ, List.setIfInBounds_toArray, List.set_cons_zero, List.set_cons_succ]
              refine hoist_take (i := 17) (v := ?_) rfl (by kernel_rfl) (by kernel_rfl) (by kernel_rfl) (by kernel_rfl) (fun _ _ _ h => h) XhS0.out (Or.inl ⟨by kernel_rfl, ?_⟩) ?_
              rotate_left
              · intro Wq hWq
                obtain ⟨x0, x1, x2⟩ := hWq
                go_simp
                try simp only [hd1, hd2, hd3, hd4, hd5, hd6]
                try with_reducible rfl
              try simp only [Act.put, List.getElem_toArray, List.getElem_cons_zero, List.getElem_cons_succ, List.setIfInBounds_toArray, List.set_cons_zero, List.set_cons_succ]
              refine hoist_take (i := 18) (v := ?_) rfl (by kernel_rfl) (by kernel_rfl) (by kernel_rfl) (by kernel_rfl) (fun _ _ _ h => h) XhS0.out (Or.inl ⟨by kernel_rfl, ?_⟩) ?_
              rotate_left
              · intro Wq hWq
                obtain ⟨x0, x1, x2⟩ := hWq
                go_simp
                try simp only [hd1, hd2, hd3, hd4, hd5, hd6]
                try with_reducible rfl
              try simp only [Act.put, List.getElem_toArray, List.getElem_cons_zero, List.getElem_cons_succ, List.setIfInBounds_toArray, List.set_cons_zero, List.set_cons_succ]
              refine hoist_one (i := 10) rfl (by kernel_rfl) (fun K hK => ?_)
              have XhK0 := Lib.hid hK
              clear hK
              go_wp2_with fail
              refine Xhcut1.out.mono ?_
              rintro e w1 ⟨v1, rfl, hk1, ho1⟩
              obtain ⟨a3, c3, rfl⟩ := own_form ho1
              have z1w := hk1.size
              have hl1 : (cutL t cols).length = cols.length := cutL_len _ _
              have hl2 : (cutL s cols).length = cols.length := cutL_len _ _
              have ic2 := ints_wider (ints_stay Xic1.out (m := wr.drew.heap.size) hk1 (Nat.le_refl _)) z1w
              have ij2 := ints_wider (ints_stay Xij1.out (m := wr.drew.heap.size) hk1 (Nat.le_refl _)) z1w
              have hcut2 := refCut_any w1.heap.size _ _ s cols w1 ij2 ic2 (Nat.le_refl _) (fun c hc => by have := rowD_at Xhrow.out c hc; have := Xhsn.out; omega)
              have hS1 : w1.cell? ⟨B, 1, none⟩ = some (.slice (some ⟨bi, oi, none⟩) ts.length cL) ∧ w1.cell? ⟨bi, oi + k, none⟩ = some (.slice ai t.length ci) ∧ w1.cell? ⟨bi, oi + q, none⟩ = some (.slice a2 s.length c2) := ⟨hk1.cell XhS0.out.1 (by simp; omega), hk1.cell XhS0.out.2.1 (by simp; omega), hk1.cell XhS0.out.2.2 (by simp; omega)⟩
              have hKx1 : Keep (fun b => b < w.heap.size) w w1 := XhKd.out.trans (hk1.mono fun b _ h => by simp; omega)
              have z2w : w.heap.size ≤ w1.heap.size := hKx1.size
              clear ic2 ij2 Xic1 Xii1 Xij1 Xhcut1
              have Xhk1 := Lib.hid hk1
              have Xho1 := Lib.hid ho1
              have Xhcut2 := Lib.hid hcut2
              have XhS1 := Lib.hid hS1
              have XhKx1 := Lib.hid hKx1
              have Xhl1 := Lib.hid hl1
              have Xhl2 := Lib.hid hl2
              clear hk1 ho1 hcut2 hS1 hKx1 hl1 hl2
              go_wp2_with fail
              refine XhK0.out _ _ (fun _ => XhS1.out) ?_
              refine hoist_one (i := 19) rfl (by kernel_rfl) (fun K hK => ?_)
              have XhK1 := Lib.hid hK
              clear hK
              go_wp2_with fail
              refine Xhcut2.out.mono ?_
              rintro e w2 ⟨v2, rfl, hk2, ho2⟩
              obtain ⟨a4, c4, rfl⟩ := own_form ho2
              have z3w := hk2.size
              have ho1' := own_kept Xho1.out hk2 (fun b hb => (World.ownsRow.lt Xho1.out b hb).2)
              have iA := own_ints ho1' (by rw [Xhl1.out]; omega)
              have iB := own_ints ho2 (by rw [Xhl2.out]; omega)
              have hsame := sameL_any w2.heap.size _ _ _ _ w2 iA iB (Nat.le_refl _)
              have hS2 : w2.cell? ⟨B, 1, none⟩ = some (.slice (some ⟨bi, oi, none⟩) ts.length cL) ∧ w2.cell? ⟨bi, oi + k, none⟩ = some (.slice ai t.length ci) ∧ w2.cell? ⟨bi, oi + q, none⟩ = some (.slice a2 s.length c2) := ⟨hk2.cell XhS1.out.1 (by simp; omega), hk2.cell XhS1.out.2.1 (by simp; omega), hk2.cell XhS1.out.2.2 (by simp; omega)⟩
              have hKx2 : Keep (fun b => b < w.heap.size) w w2 := XhKx1.out.trans (hk2.mono fun b _ h => by omega)
              clear ho1' iA iB XhS1 XhKx1 Xho1 ho2 hk2
              have Xhsame := Lib.hid hsame
              have XhS2 := Lib.hid hS2
              have XhKx2 := Lib.hid hKx2
              clear hsame hS2 hKx2
              go_wp2_with fail
              refine XhK1.out _ _ (fun _ => XhS2.out) ?_
              refine hoist_one (i := 20) rfl (by kernel_rfl) (fun K hK => ?_)
              have XhK2 := Lib.hid hK
              clear hK
              go_wp2_with fail
              refine Xhsame.out.mono ?_
              rintro e w3 ⟨rfl, hk3⟩
              have hS3 : w3.cell? ⟨B, 1, none⟩ = some (.slice (some ⟨bi, oi, none⟩) ts.length cL) ∧ w3.cell? ⟨bi, oi + k, none⟩ = some (.slice ai t.length ci) ∧ w3.cell? ⟨bi, oi + q, none⟩ = some (.slice a2 s.length c2) := ⟨hk3.cell XhS2.out.1 trivial, hk3.cell XhS2.out.2.1 trivial, hk3.cell XhS2.out.2.2 trivial⟩
              have hKx3 : Keep (fun b => b < w.heap.size) w w3 := XhKx2.out.trans (hk3.mono fun b _ h => trivial)
              have hszz := hKx3.size
              have hdn := Xhdn.out
              obtain ⟨dv, hdv⟩ : ∃ dv, decide (cutL t cols = cutL s cols) = dv := ⟨_, rfl⟩
              rw [hdv] at hdn
              rw [hdv]
              clear hdv hk3 XhS2 XhKx2
              have XhS3 := Lib.hid hS3
              have XhKx3 := Lib.hid hKx3
              clear hS3 hKx3
              cases dv
              all_goals
                have Xhdn := Lib.hid hdn
                clear hdn
                go_wp2_with fail
                refine XhK2.out _ _ (fun _ => XhS3.out) ?_
                refine hoist_one (i := 21) rfl (by kernel_rfl) (fun K hK => ?_)
                have XhK3 := Lib.hid hK
                clear hK
                go_wp2_with fail
                refine XhK3.out _ _ (fun _ => XhS3.out) ?_
                refine hoist_one (i := 22) rfl (by kernel_rfl) (fun K hK => ?_)
                have XhK4 := Lib.hid hK
                clear hK
                go_wp2_with fail
                refine XhK4.out _ _ (fun _ => XhS3.out) ?_
                refine hoist_one (i := 23) rfl (by kernel_rfl) (fun K hK => ?_)
                have XhK5 := Lib.hid hK
                clear hK
                go_wp2_with fail
                refine XhK5.out _ _ (fun h => by simp at h) ?_
                refine hoist_done (by kernel_rfl) ?_
                go_wp2_with fail
                go_roundw
                case rel => exact ⟨q + 1, by omega, by go_num, by rw [Xhdn.out]; rfl, XhKx3.out⟩
                case measure => simp [intOf]; omega
          · obtain rfl : q = k := by omega
            by_cases hin : cutL t cols ∈ L.take q
            · have hdq' := fresh_no hin
              have hdd : (dd (L.take (q + 1))).length = dq := by rw [dd_take XhLk.out, if_pos hin, Xhdq.out]
              rw [hdq']
              clear hin hdq'
              have XhKx := Lib.hid hKx
              have Xhdd := Lib.hid hdd
              clear hKx hdd
              go_wp2_with fail
              go_roundw
              case rel => exact ⟨q + 1, by omega, by go_num, by rw [Xhdd.out], XhKx.out⟩
              case measure => simp [intOf]; omega
            · have hdq' := fresh_yes hin
              have hdd : (dd (L.take (q + 1))).length = dq + 1 := by rw [dd_take XhLk.out, if_neg hin, List.length_append, Xhdq.out]; rfl
              rw [hdq']
              have hdb : (dq : Int) + 1 ≤ 1073741825 := by omega
              clear hin hdq'
              have XhKx := Lib.hid hKx
              have Xhdd := Lib.hid hdd
              clear hKx hdd
              go_wp2_with fail
              go_roundw
              case rel => exact ⟨q + 1, by omega, by go_num, by rw [Xhdd.out]; simp, XhKx.out⟩
              case measure => simp [intOf]; omega
      · obtain rfl : k = ts.length := by omega
        have hd : (dd (L.take ts.length)).length = (dd L).length := by rw [← hLn', List.take_length]
        rw [hd]
        clear hd hdn hLn'
        have XhK := Lib.hid hK
        clear hK
        go_wp2_with fail
        go_ret2
        exact ⟨by rw [Xhans.out]; rfl, XhK.out⟩
end Go.Proofs
