/- Layer 4, the law RelationPlays: small functions of both relations, and those of one that is not there. -/
import Derived.Test.YtbaemcmagkmjiaaProg
import Derived.Test.YtbaemcmagkmjiaaRelEE
import Derived.Test.YtbaemcmagkmjiaaRelAA
import Derived.Test.YtbaemcmagkmjiaaHoistRToDistL
import Derived.Test.YtbaemcmagkmjiaaRelO
import Derived.Test.YtbaemcmagkmjiaaOwnToRowC
namespace Go.Proofs
open Go.RowKit Go.Ink
set_option linter.unusedVariables false
set_option linter.unusedSimpArgs false
attribute [local go_sem] Oper.semAt_some

set_option maxRecDepth 100000 in
theorem relAdd_nil (v : Value) (w : World) : Calls Try.prog 18 #[.pointer none, v] w fun e w' => e = .returned (.tuple #[.int .i64 0, .bool false, .int .i64 1]) ∧ w' = w := by
  go_enter Try.func18, Try.ntmps18
  go_wp2_with fail
  refine (made_nil w).mono ?_
  rintro e w1 ⟨rfl, hw1⟩
  have hw1 := hw1.symm
  subst hw1
  go_wp2_with fail
  go_ret3
  exact ⟨rfl, rfl⟩
set_option maxRecDepth 100000 in
theorem relPlace_nil (v : Value) (w : World) : Calls Try.prog 53 #[.pointer none, v] w fun e w' => e = .returned (.tuple #[.int .i64 0, .bool false]) ∧ w' = w := by
  go_enter Try.func53, Try.ntmps53
  go_wp2_with fail
  refine (made_nil w).mono ?_
  rintro e w1 ⟨rfl, hw1⟩
  have hw1 := hw1.symm
  subst hw1
  go_wp2_with fail
  go_ret2
  exact ⟨rfl, rfl⟩
set_option maxRecDepth 100000 in
theorem relAt_nil (i : Int) (w : World) : Calls Try.prog 21 #[.pointer none, .int .i64 i] w fun e w' => e = .returned (.tuple #[.slice none 0 0, .bool false]) ∧ w' = w := by
  go_enter Try.func21, Try.ntmps21
  by_cases h0 : i < 0
  · go_wp2_with fail
    go_ret2
    exact ⟨rfl, rfl⟩
  · have h1 : (0 : Int) ≤ i := by omega
    go_wp2_with fail
    refine (relLen_nil w).mono ?_
    rintro e w1 ⟨rfl, hw1⟩
    have hw1 := hw1.symm
    subst hw1
    go_wp2_with fail
    go_ret2
    exact ⟨rfl, rfl⟩
set_option maxRecDepth 100000 in
theorem relArity_nil (w : World) : Calls Try.prog 48 #[.pointer none] w fun e w' => e = .returned (.int .i64 0) ∧ w' = w := by
  go_enter Try.func48, Try.ntmps48
  go_wp2_with fail
  refine (made_nil w).mono ?_
  rintro e w1 ⟨rfl, hw1⟩
  have hw1 := hw1.symm
  subst hw1
  go_wp2_with fail
  go_ret
  exact ⟨rfl, rfl⟩
set_option maxRecDepth 100000 in
theorem relArity_any {w : World} {B n c P K : Nat} {vD : Value} (h : w.heap[B]? = some (.cells (relCells n vD c P K).toArray 79 (0, 0))) : Calls Try.prog 48 #[.pointer (some ⟨B, 0, none⟩)] w fun e w' => e = .returned (.int .i64 n) ∧ w' = w := by
  have c0 := cells_of_block h 0 _ rfl
  have hB := heap_lt h
  simp only [Nat.zero_add] at c0
  have Xh := Lib.hid h
  clear h
  go_enter Try.func48, Try.ntmps48
  go_wp2_with fail
  refine (made_any Xh.out).mono ?_
  rintro e w1 ⟨rfl, hw1⟩
  have hw1 := hw1.symm
  subst hw1
  go_wp2_with fail
  go_ret
  exact ⟨rfl, rfl⟩
set_option maxRecDepth 100000 in
theorem relCount_nil (vc vk : Value) (lo hi : Int) (w : World) : Calls Try.prog 23 #[.pointer none, vc, vk, .int .i64 lo, .int .i64 hi] w fun e w' => e = .returned (.tuple #[.int .i64 0, .int .i64 1]) ∧ w' = w := by
  refine calls_of Try.func23 rfl ?_
  simp only [Try.ntmps23, List.size_toArray, List.length_cons, List.length_nil, Nat.reduceAdd, Nat.reduceSub, Array.replicate_succ, Array.replicate_zero, List.push_toArray, List.append_toArray, List.nil_append, List.cons_append]
  gi_wp2
  refine ⟨trivial, rfl, (callsIn_wide.2 (made_nil w)).mono ?_⟩
  rintro e w1 ⟨rfl, hw1⟩
  have hw1 := hw1.symm
  subst hw1
  gi_wp2
  refine leaves_nil (v := .tuple #[.int .i64 0, .int .i64 1]) (by simp [results, Try.results23, go_sem]) ⟨rfl, rfl⟩
set_option maxRecDepth 100000 in
theorem relDistinct_nil (vc : Value) (w : World) : Calls Try.prog 20 #[.pointer none, vc] w fun e w' => e = .returned (.tuple #[.int .i64 0, .int .i64 1]) ∧ w' = w := by
  go_enter Try.func20, Try.ntmps20
  go_wp2_with fail
  refine (made_nil w).mono ?_
  rintro e w1 ⟨rfl, hw1⟩
  have hw1 := hw1.symm
  subst hw1
  go_wp2_with fail
  go_ret2
  exact ⟨rfl, rfl⟩

set_option maxRecDepth 100000 in
theorem refAdd_nil (v : Value) (w : World) : Calls Try.prog 36 #[.pointer none, v] w fun e w' => e = .returned (.tuple #[.int .i64 0, .bool false, .int .i64 1]) ∧ w' = w := by
  go_enter Try.func36, Try.ntmps36
  go_wp2_with fail
  go_ret3
  exact ⟨rfl, rfl⟩
set_option maxRecDepth 100000 in
theorem refPlace_nil (v : Value) (w : World) : Calls Try.prog 51 #[.pointer none, v] w fun e w' => e = .returned (.tuple #[.int .i64 0, .bool false]) ∧ w' = w := by
  go_enter Try.func51, Try.ntmps51
  go_wp2_with fail
  go_loopw [6] (fun i wr => i = .int .i64 0 ∧ wr = w) (fun i _ => 0)
  case atStart => exact ⟨rfl, rfl⟩
  case round =>
    obtain ⟨rfl, hwr⟩ := hrel
    have hwr := hwr.symm
    subst hwr
    go_wp2_with fail
    refine (refLen_nil w).mono ?_
    rintro e w1 ⟨rfl, hw1⟩
    have hw1 := hw1.symm
    subst hw1
    go_wp2_with fail
    go_ret2
    exact ⟨rfl, rfl⟩
set_option maxRecDepth 100000 in
theorem refAt_nil (i : Int) (w : World) : Calls Try.prog 54 #[.pointer none, .int .i64 i] w fun e w' => e = .returned (.tuple #[.slice none 0 0, .bool false]) ∧ w' = w := by
  go_enter Try.func54, Try.ntmps54
  by_cases h0 : i < 0
  · go_wp2_with fail
    go_ret2
    exact ⟨rfl, rfl⟩
  · have h1 : (0 : Int) ≤ i := by omega
    go_wp2_with fail
    refine (refLen_nil w).mono ?_
    rintro e w1 ⟨rfl, hw1⟩
    have hw1 := hw1.symm
    subst hw1
    go_wp2_with fail
    go_ret2
    exact ⟨rfl, rfl⟩
set_option maxRecDepth 100000 in
theorem refAt_bad {w : World} {B n0 n : Nat} {ts : List (List Int)} {vL : Value} (h : RefAt w B n0 n ts vL) (i : Int) (hi : i < 0 ∨ (ts.length : Int) ≤ i) :
    Calls Try.prog 54 #[.pointer (some ⟨B, 0, none⟩), .int .i64 i] w fun e w' => e = .returned (.tuple #[.slice none 0 0, .bool false]) ∧ w' = w := by
  have Xh := Lib.hid h
  clear h
  go_enter Try.func54, Try.ntmps54
  rcases hi with h0 | h0
  · go_wp2_with fail
    go_ret2
    exact ⟨rfl, rfl⟩
  · have h1 : ¬ i < 0 := by omega
    have hd1 : decide ((ts.length : Int) ≤ i) = true := decide_eq_true h0
    go_wp2_with fail
    refine (refLen_any Xh.out).mono ?_
    rintro e w1 ⟨rfl, hw1⟩
    have hw1 := hw1.symm
    subst hw1
    go_wp2_with fail
    go_ret2
    exact ⟨rfl, rfl⟩
set_option maxRecDepth 100000 in
theorem refAt_any {w : World} {B n0 n : Nat} {ts : List (List Int)} {vL : Value} (h : RefAt w B n0 n ts vL) (i : Nat) (t : List Int) (hi : ts[i]? = some t) :
    Calls Try.prog 54 #[.pointer (some ⟨B, 0, none⟩), .int .i64 (i : Int)] w fun e w' => ∃ sv, e = .returned (.tuple #[sv, .bool true]) ∧ IntsIn n0 w sv t ∧ w' = w := by
  have hil := (List.getElem?_eq_some_iff.1 hi).1
  obtain ⟨aL, cL, rfl, hlL, hcL, heL⟩ := id h.l
  obtain ⟨bL, oL, rfl, hbL, sv, hsv, hiv⟩ := heL i t hi
  have c1 := cells_of_block h.box 1 _ rfl
  have hB := heap_lt h.box
  have hbw : bL < w.heap.size := World.block_lt_of_cell? _ _ hsv
  simp only [Nat.zero_add, Nat.mul_one] at c1 hsv
  have h1 : ¬ (i : Int) < 0 := by omega
  have hd1 : decide (ts.length ≤ i) = false := decide_eq_false (by omega)
  have hi0 : (0 : Int) ≤ i := by omega
  have hil1 : (i : Int) < ts.length := by omega
  obtain ⟨asv, csv, rfl, _⟩ := id hiv
  clear heL
  have Xh := Lib.hid h
  have Xhi := Lib.hid hi
  have Xhiv := Lib.hid hiv
  clear h hi hiv
  go_enter Try.func54, Try.ntmps54
  go_wp2_with fail
  refine (refLen_any Xh.out).mono ?_
  rintro e w1 ⟨rfl, hw1⟩
  have hw1 := hw1.symm
  subst hw1
  go_wp2_with fail
  go_ret2
  exact ⟨_, rfl, Xhiv.out, rfl⟩
set_option maxRecDepth 100000 in
theorem refArity_nil (w : World) : Calls Try.prog 49 #[.pointer none] w fun e w' => e = .returned (.int .i64 0) ∧ w' = w := by
  go_enter Try.func49, Try.ntmps49
  go_wp2_with fail
  go_ret
  exact ⟨rfl, rfl⟩
set_option maxRecDepth 100000 in
theorem refArity_any {w : World} {B n0 n : Nat} {ts : List (List Int)} {vL : Value} (h : RefAt w B n0 n ts vL) : Calls Try.prog 49 #[.pointer (some ⟨B, 0, none⟩)] w fun e w' => e = .returned (.int .i64 n) ∧ w' = w := by
  have c0 := cells_of_block h.box 0 _ rfl
  have hB := heap_lt h.box
  simp only [Nat.zero_add] at c0
  have Xh := Lib.hid h
  clear h
  go_enter Try.func49, Try.ntmps49
  go_wp2_with fail
  go_ret
  exact ⟨rfl, rfl⟩
set_option maxRecDepth 100000 in
theorem refAll_nil (lo hi : Int) (w : World) : Calls Try.prog 29 #[.pointer none, .int .i64 lo, .int .i64 hi] w fun e w' => e = .returned (.slice none 0 0) ∧ w' = w := by
  go_enter Try.func29, Try.ntmps29
  go_wp2_with fail
  refine (refMatch_nil _ _ _ _ w).mono ?_
  rintro e w1 ⟨rfl, hw1⟩
  have hw1 := hw1.symm
  subst hw1
  go_wp2_with fail
  go_ret
  exact ⟨rfl, rfl⟩
set_option maxRecDepth 100000 in
theorem refAll_any {w : World} {B n0 n : Nat} {ts : List (List Int)} {vL : Value} (h : RefAt w B n0 n ts vL) (hts : ∀ t, t ∈ ts → t.length = n) (lo hi : Int) :
    Calls Try.prog 29 #[.pointer (some ⟨B, 0, none⟩), .int .i64 lo, .int .i64 hi] w fun e w' => ∃ v, e = .returned v ∧ Keep (fun k => k < w.heap.size) w w' ∧
      w'.ownsRow w.heap.size 3 1 v (matchD n ts [] [] lo hi).length ((matchD n ts [] [] lo hi).map fun i : Nat => Value.int .i64 (i : Int)) := by
  have hm := refMatch_any h hts 0 (.slice none 0 0) (.slice none 0 0) [] [] lo hi (nil_ints _) (nil_ints _) (Nat.zero_le _)
  have Xhm := Lib.hid hm
  have Xh := Lib.hid h
  have Xhts := Lib.hid hts
  clear hm h hts
  go_enter Try.func29, Try.ntmps29
  go_wp2_with fail
  refine Xhm.out.mono ?_
  rintro e W1 ⟨v, rfl, k1, ho1⟩
  obtain ⟨a, c, rfl⟩ := own_form ho1
  have Xk1 := Lib.hid k1
  have Xho1 := Lib.hid ho1
  clear k1 ho1
  go_wp2_with fail
  go_ret
  exact ⟨_, rfl, Xk1.out, Xho1.out⟩
set_option maxRecDepth 100000 in
theorem refCount_nil (vc vk : Value) (lo hi : Int) (w : World) : Calls Try.prog 55 #[.pointer none, vc, vk, .int .i64 lo, .int .i64 hi] w fun e w' => e = .returned (.tuple #[.int .i64 0, .int .i64 1]) ∧ w' = w := by
  go_enter Try.func55, Try.ntmps55
  go_wp2_with fail
  go_ret2
  exact ⟨rfl, rfl⟩
set_option maxRecDepth 100000 in
theorem refCount_any {w : World} {B n0 n : Nat} {ts : List (List Int)} {vL : Value} (h : RefAt w B n0 n ts vL) (hts : ∀ t, t ∈ ts → t.length = n) (m : Nat) (vc vk : Value) (cols key : List Int) (lo hi : Int) (hc : IntsIn m w vc cols) (hk : IntsIn m w vk key) (hm : m ≤ w.heap.size) :
    Calls Try.prog 55 #[.pointer (some ⟨B, 0, none⟩), vc, vk, .int .i64 lo, .int .i64 hi] w fun e w' => e = .returned (.tuple #[.int .i64 (countD n ts cols key lo hi).1, .int .i64 (countD n ts cols key lo hi).2]) ∧ Keep (fun k => k < w.heap.size) w w' := by
  obtain ⟨ac, cc, rfl, hlc, hcc, hec⟩ := id hc
  obtain ⟨ak, ck, rfl, hlk, hck, hek⟩ := id hk
  have hB := heap_lt h.box
  have hn0 := h.lw
  clear hec hek
  have Xh := Lib.hid h
  have Xhc := Lib.hid hc
  have Xhk := Lib.hid hk
  have Xhts := Lib.hid hts
  clear h hc hk hts
  go_enter Try.func55, Try.ntmps55
  go_wp2_with fail
  refine (refRow_any Xh.out m _ cols Xhc.out hm).mono ?_
  rintro e W1 ⟨rfl, k1⟩
  have z1 := k1.size
  have hr1 := Xh.out.keep (m := w.heap.size) (k1.mono fun _ _ _ => trivial) hn0 hB
  have hc1 := ints_stay Xhc.out (m := m) (k1.mono fun _ _ _ => trivial) (Nat.le_refl _)
  have hk1 := ints_stay Xhk.out (m := m) (k1.mono fun _ _ _ => trivial) (Nat.le_refl _)
  cases hrow : rowD n cols with
  | false =>
    have hans : countD n ts cols key lo hi = (0, 2) := by unfold countD; rw [hrow]; rfl
    clear hrow
    have Xk1 := Lib.hid k1
    have Xhr1 := Lib.hid hr1
    have Xhans := Lib.hid hans
    have Xhc1 := Lib.hid hc1
    have Xhk1 := Lib.hid hk1
    clear k1 hr1 hans hc1 hk1
    go_wp2_with fail
    go_ret2
    exact ⟨by rw [Xhans.out]; rfl, Xk1.out.mono fun _ _ _ => trivial⟩
  | true =>
    by_cases hlen : key.length = cols.length
    · have hans : countD n ts cols key lo hi = (((matchD n ts cols key lo hi).length : Int), 0) := by unfold countD; rw [hrow, decide_eq_true hlen]; rfl
      have hl1 : ((key.length : Int) != cols.length) = false := by simp [hlen]
      have hma := refMatch_any hr1 Xhts.out m _ _ cols key lo hi hc1 hk1 (by omega)
      clear hrow hlen
      have Xk1 := Lib.hid k1
      have Xhr1 := Lib.hid hr1
      have Xhans := Lib.hid hans
      have Xhc1 := Lib.hid hc1
      have Xhk1 := Lib.hid hk1
      have Xhma := Lib.hid hma
      clear k1 hr1 hans hc1 hk1 hma
      go_wp2_with fail
      refine Xhma.out.mono ?_
      rintro e W2 ⟨v, rfl, k2, ho2⟩
      obtain ⟨a, c, rfl⟩ := own_form ho2
      have Xk2 := Lib.hid k2
      have Xho2 := Lib.hid ho2
      clear k2 ho2
      go_wp2_with fail
      go_ret2
      exact ⟨by rw [Xhans.out]; rfl, (Xk1.out.mono fun _ _ _ => trivial).trans (Xk2.out.mono fun b _ h => by omega)⟩
    · have hans : countD n ts cols key lo hi = (0, 2) := by unfold countD; rw [hrow, decide_eq_false hlen]; rfl
      have hl1 : ((key.length : Int) != cols.length) = true := by simp; omega
      clear hrow hlen
      have Xk1 := Lib.hid k1
      have Xhr1 := Lib.hid hr1
      have Xhans := Lib.hid hans
      have Xhc1 := Lib.hid hc1
      have Xhk1 := Lib.hid hk1
      clear k1 hr1 hans hc1 hk1
      go_wp2_with fail
      go_ret2
      exact ⟨by rw [Xhans.out]; rfl, Xk1.out.mono fun _ _ _ => trivial⟩
set_option maxRecDepth 100000 in
theorem refDistinct_nil (vc : Value) (w : World) : Calls Try.prog 47 #[.pointer none, vc] w fun e w' => e = .returned (.tuple #[.int .i64 0, .int .i64 1]) ∧ w' = w := by
  go_enter Try.func47, Try.ntmps47
  go_wp2_with fail
  go_ret2
  exact ⟨rfl, rfl⟩
set_option maxRecDepth 100000 in
theorem refCopy_nil (w : World) : Calls Try.prog 27 #[.pointer none] w fun e w' => e = .returned (.pointer none) ∧ w' = w := by
  go_enter Try.func27, Try.ntmps27
  go_wp2_with fail
  go_ret
  exact ⟨rfl, rfl⟩
end Go.Proofs

/- Layer 4, the law RelationPlays: Place of the program's relation, Distinct of the document's. -/
namespace Go.Proofs
open Go.RowKit Go.Ink
set_option linter.unusedVariables false
set_option linter.unusedSimpArgs false
attribute [local go_sem] Oper.semAt_some

theorem place_wrong {n : Nat} {ts : List (List Int)} {t : List Int} (h : ∀ t ∈ ts, rightD n t = true) (ht : rightD n t = false) : placeD ts t = none := by
  unfold placeD
  refine List.find?_eq_none.2 fun i _ hi => ?_
  have := h t (List.mem_of_getElem? (of_decide_eq_true hi))
  rw [ht] at this
  cases this

set_option maxRecDepth 100000 in
set_option maxHeartbeats 1000000 in
theorem relPlace_any {tag : Tags} {w : World} {B n : Nat} {ts : List (List Int)} {vD : Value} {P K : Nat} {lm : List (List Bool × Nat)} (h : RelOwn tag w B n ts vD P K lm) (m : Nat) (v : Value) (t : List Int) (hs : IntsIn m w v t) (hm : m ≤ w.heap.size) (hok : okT t) :
    Calls Try.prog 53 #[.pointer (some ⟨B, 0, none⟩), v] w fun e w' => e = .returned (placeV (placeD ts t)) ∧ Keep (fun k => k < w.heap.size) w w' := by
  obtain ⟨a, c, rfl, hlt, hct, het⟩ := id hs
  have hB := heap_lt h.box
  have hn16 := h.n16
  have Xh := Lib.hid h
  have Xhs := Lib.hid hs
  have Xhet := Lib.hid het
  have Xhok := Lib.hid hok
  clear h hs het hok
  go_enter Try.func53, Try.ntmps53
  go_wp2_with fail
  refine (made_any Xh.out.box).mono ?_
  rintro e w1 ⟨rfl, hw1⟩
  have hw1 := hw1.symm
  subst hw1
  go_wp2_with fail
  refine (right_any Xh.out.box m _ t Xhs.out hm).mono ?_
  rintro e W1 ⟨rfl, kw1⟩
  cases hrt : rightD n t with
  | false =>
    have hans : placeD ts t = none := place_wrong Xh.out.right hrt
    clear hrt
    have Xkw1 := Lib.hid kw1
    have Xhans := Lib.hid hans
    clear kw1 hans
    go_wp2_with fail
    go_ret2
    exact ⟨by rw [Xhans.out]; rfl, Xkw1.out.mono fun _ _ _ => trivial⟩
  | true =>
    have htl := rightD_len hrt
    obtain ⟨Wd, hWd⟩ : ∃ Wd, W1.drew = Wd := ⟨_, rfl⟩
    replace kw1 : Keep (fun _ => True) w Wd := by rw [← hWd]; exact kw1.trans (Keep.drew _ _)
    have hs1 := ints_stay Xhs.out (m := m) (kw1.mono fun _ _ _ => trivial) (Nat.le_refl _)
    have htl16 : t.length ≤ 16 := by omega
    have hckl : (padK t).length = 16 := padK_len (by omega)
    have hkok : ∃ q, keyOf Try.prog 81 (keyV (padK t)) = some q := key_ok hckl (okT_pad Xhok.out)
    have z1 := kw1.size
    have c3 := cells_of_block (Xh.out.keep kw1 (fun _ _ _ _ => trivial)).box 3 _ rfl
    simp only [Nat.zero_add] at c3
    have hB1 : B < Wd.heap.size := by omega
    clear hckl
    have hwh := whole_any m _ t Wd hs1 (by omega) htl16
    have Xkw1 := Lib.hid kw1
    have Xhs1 := Lib.hid hs1
    have Xhkok := Lib.hid hkok
    have Xhrt := Lib.hid hrt
    have Xhtl := Lib.hid htl
    have Xhwh := Lib.hid hwh
    clear kw1 hs1 hkok hrt htl hwh
    have XhS0 := Lib.hid c3
    clear c3
    have c3 : W1.cell? ⟨B, 3, none⟩ = some (.map (some P)) := by rw [← hWd] at XhS0; exact XhS0.out
    have hB0 : B < W1.heap.size := by rw [← hWd] at hB1; exact hB1
    subst hWd
    go_wp2_with fail
    refine region_hoist rfl (fun W => W.cell? ⟨B, 3, none⟩ = some (.map (some P))) [11] ?_
    clear c3
    refine hoist_take (i := 0) (v := ?_) rfl (by kernel_rfl) (by kernel_rfl) (by kernel_rfl) (by kernel_rfl) (fun _ _ _ h => h) XhS0.out (Or.inl ⟨by rfl, ?_⟩) ?_
    rotate_left
    · intro Wq hWq
      obtain x0 := hWq
      go_simp
      try with_reducible rfl
    try simp only [Act.put, List.getElem_toArray, List.getElem_cons_zero, List.getElem_cons_succ, List.setIfInBounds_toArray, List.set_cons_zero, List.set_cons_succ]
    refine hoist_take (i := 1) (v := ?_) rfl (by kernel_rfl) (by kernel_rfl) (by kernel_rfl) (by kernel_rfl) (fun _ _ _ h => h) XhS0.out (Or.inl ⟨by rfl, ?_⟩) ?_
    rotate_left
    · intro Wq hWq
      obtain x0 := hWq
      go_simp
      try with_reducible rfl
    try simp only [Act.put, List.getElem_toArray, List.getElem_cons_zero, List.getElem_cons_succ, List.setIfInBounds_toArray, List.set_cons_zero, List.set_cons_succ]
    refine hoist_take (i := 2) (v := ?_) rfl (by kernel_rfl) (by kernel_rfl) (by kernel_rfl) (by kernel_rfl) (fun _ _ _ h => h) XhS0.out (Or.inl ⟨by rfl, ?_⟩) ?_
    rotate_left
    · intro Wq hWq
      obtain x0 := hWq
      go_simp
      try with_reducible rfl
    try simp only [Act.put, List.getElem_toArray, List.getElem_cons_zero, List.getElem_cons_succ, List.setIfInBounds_toArray, List.set_cons_zero, List.set_cons_succ]
    refine hoist_take (i := 3) (v := ?_) rfl (by kernel_rfl) (by kernel_rfl) (by kernel_rfl) (by kernel_rfl) (fun _ _ _ h => h) XhS0.out (Or.inl ⟨by rfl, ?_⟩) ?_
    rotate_left
    · intro Wq hWq
      obtain x0 := hWq
      go_simp
      try with_reducible rfl
    try simp only [Act.put, List.getElem_toArray, List.getElem_cons_zero, List.getElem_cons_succ, List.setIfInBounds_toArray, List.set_cons_zero, List.set_cons_succ]
    refine hoist_take (i := 4) (v := ?_) rfl (by kernel_rfl) (by kernel_rfl) (by kernel_rfl) (by kernel_rfl) (fun _ _ _ h => h) XhS0.out (Or.inl ⟨by rfl, ?_⟩) ?_
    rotate_left
    · intro Wq hWq
      obtain x0 := hWq
      go_simp
      try with_reducible rfl
    try simp only [Act.put, List.getElem_toArray, List.getElem_cons_zero, List.getElem_cons_succ, List.setIfInBounds_toArray, List.set_cons_zero, List.set_cons_succ]
    refine hoist_one (i := 5) rfl (by kernel_rfl) (fun K hK => ?_)
    have XhK0 := Lib.hid hK
    clear hK
    go_wp2_with fail
    refine Xhwh.out.mono ?_
    rintro e W2 ⟨rfl, kw2⟩
    replace kw2 : Keep (fun b => b < w.heap.size) w W2 := (Xkw1.out.mono fun _ _ _ => trivial).trans (kw2.mono fun b _ h => by omega)
    have hd := Xh.out.keep kw2 (fun b T hb hlt => hlt)
    have hlk := run_lookK (P := Try.prog) Try.underlying76 arrKey.law keyV_inj zero_int hd.pmap (padK t) Xhkok.out true
    have hnd : ((placesM ts).map (·.1)).Nodup := by
      obtain ⟨_, _, _, _, hnd, _⟩ := hd.pmap
      exact hnd
    rw [place_look hd.len Xhtl.out hnd] at hlk
    have c3 := cells_of_block hd.box 3 _ rfl
    simp only [Nat.zero_add] at c3
    have XhS2 := Lib.hid c3
    have hB2 : B < W2.heap.size := heap_lt hd.box
    clear hnd hd c3
    have Xkw2 := Lib.hid kw2
    clear kw2
    cases hpl : placeD ts t
    all_goals
      rw [hpl] at hlk
      simp only [if_true] at hlk
      have Xhpl := Lib.hid hpl
      clear hpl
      go_wp2_with fail
      refine XhK0.out _ _ (fun _ => XhS2.out) ?_
      refine hoist_one (i := 6) rfl (by kernel_rfl) (fun K hK => ?_)
      have XhK1 := Lib.hid hK
      clear hK
      go_wp2_with fail
      refine XhK1.out _ _ (fun _ => XhS2.out) ?_
      refine hoist_one (i := 7) rfl (by kernel_rfl) (fun K hK => ?_)
      have XhK2 := Lib.hid hK
      clear hK
      go_wp2_with fail
      refine XhK2.out _ _ (fun _ => XhS2.out) ?_
      refine hoist_take (i := 8) (v := ?_) rfl (by kernel_rfl) (by kernel_rfl) (by kernel_rfl) (by kernel_rfl) (fun _ _ _ h => h) XhS2.out (Or.inl ⟨by rfl, ?_⟩) ?_
      rotate_left
      · intro Wq hWq
        obtain x0 := hWq
        go_simp
        try with_reducible rfl
      try simp only [Act.put, List.getElem_toArray, List.getElem_cons_zero, List.getElem_cons_succ, List.setIfInBounds_toArray, List.set_cons_zero, List.set_cons_succ]
      refine hoist_take (i := 9) (v := ?_) rfl (by kernel_rfl) (by kernel_rfl) (by kernel_rfl) (by kernel_rfl) (fun _ _ _ h => h) XhS2.out (Or.inl ⟨by rfl, ?_⟩) ?_
      rotate_left
      · intro Wq hWq
        obtain x0 := hWq
        go_simp
        try with_reducible rfl
      try simp only [Act.put, List.getElem_toArray, List.getElem_cons_zero, List.getElem_cons_succ, List.setIfInBounds_toArray, List.set_cons_zero, List.set_cons_succ]
      refine hoist_one (i := 10) rfl (by kernel_rfl) (fun K hK => ?_)
      have XhK5 := Lib.hid hK
      clear hK
      go_wp2_with fail
      refine XhK5.out _ _ (fun _ => XhS2.out) ?_
      refine hoist_one (i := 11) rfl (by kernel_rfl) (fun K hK => ?_)
      have XhK6 := Lib.hid hK
      clear hK
      go_wp2_with fail
      refine XhK6.out _ _ (fun h => by simp at h) ?_
      refine hoist_done (by kernel_rfl) ?_
      go_wp2_with fail
      go_ret2
      exact ⟨by rw [Xhpl.out]; rfl, Xkw2.out⟩
end Go.Proofs
