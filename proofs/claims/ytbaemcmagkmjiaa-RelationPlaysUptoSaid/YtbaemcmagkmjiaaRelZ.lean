/- Layer 4, the law: known. -/
import Derived.Test.YtbaemcmagkmjiaaProg
import Derived.Test.YtbaemcmagkmjiaaRelXToRelY
namespace Go.Proofs
open Go.RowKit Go.Ink
set_option linter.unusedVariables false
set_option linter.unusedSimpArgs false
attribute [local go_sem] Oper.semAt_some

theorem lit_ints (w : World) (l : List Int) (hl : l.length ≤ 1073741824) : IntsIn (w.heap.size + 1) (w.alloc (.cells (l.map (.int .i64)).toArray 3)) (.slice (some ⟨w.heap.size, 0, none⟩) l.length l.length) l := by
  refine ⟨_, _, rfl, hl, ⟨Nat.le_refl _, by simp only [maxLen]; omega⟩, fun k x hk => ⟨w.heap.size, 0, rfl, by omega, ?_⟩⟩
  have := cells_of_block (new_block w (.cells (l.map (.int .i64)).toArray 3)) k (.int .i64 x) (by simp [List.getElem?_map, hk])
  simpa [IntE] using this

/-- one Add of numbers just laid -/
theorem known_add {B n P KM : Nat} {s : RelS} {n0 : Nat} {W : World} (hinv : RelInv B n P KM s W) (hfew : s.ts.length < 67108864) (hlow : ∀ b T, s.tag b = some T → n0 ≤ b) (hn0 : n0 ≤ W.heap.size) (l : List Int) (hok : okT l) (hl : l.length ≤ 1073741824) :
    Calls Try.prog 18 #[.pointer (some ⟨B, 0, none⟩), .slice (some ⟨W.heap.size, 0, none⟩) l.length l.length] (W.alloc (.cells (l.map (.int .i64)).toArray 3)) fun e w' => e = .returned (.tuple #[.int .i64 (addD n s.ts l).1, .bool (addD n s.ts l).2.1, .int .i64 (addD n s.ts l).2.2]) ∧
      ∃ s', RelInv B n P KM s' w' ∧ s'.ts = addT n s.ts l ∧ (∀ b T, s'.tag b = some T → n0 ≤ b) ∧ Keep (fun b => b < n0) W w' := by
  have k1 : Keep (fun _ => True) W (W.alloc (.cells (l.map (.int .i64)).toArray 3)) := Keep.alloc _ _ _
  have hinv1 := hinv.keep (k1.mono fun _ _ _ => trivial)
  have hf : FreeOf s.tag (.slice (some ⟨W.heap.size, 0, none⟩) l.length l.length) := fun a n' c' e => by
    injection e with e1
    injection e1 with e1
    subst e1
    show s.tag W.heap.size = none
    cases hT : s.tag W.heap.size with
    | none => rfl
    | some T => have := hinv.own.lt _ T hT; omega
  refine (relAdd_any hinv1.own (by omega) (W.heap.size + 1) _ l (lit_ints W l hl) (by simp) hok hf).mono ?_
  rintro e w' ⟨rfl, k2, tag', vD', hO, hle, hnew⟩
  refine ⟨rfl, ⟨tag', addT n s.ts l, vD', s.lm⟩, ⟨hO, by have := addT_len n s.ts l; simp only; omega⟩, rfl, fun b T hb => ?_, ?_⟩
  · rcases hnew b T hb with ⟨T', h1⟩ | h1
    · exact hlow b T' h1
    · simp at h1; omega
  · refine (k1.mono fun _ _ _ => trivial).trans (k2.mono fun b hb h => ?_)
    cases hT : s.tag b with
    | none => rfl
    | some T => have := hlow b T hT; omega

set_option maxRecDepth 100000 in
set_option maxHeartbeats 1000000 in
theorem known4_any (w : World) : Calls Try.prog 7 #[] w fun e w' => e = .returned (.bool true) ∧ Keep (fun _ => True) w w' := by
  go_enter Try.func7, Try.ntmps7
  go_wp2_with fail
  refine (show Calls Try.prog 16 #[.int .i64 2] w _ from relNew_any 2 (by omega) w).mono ?_
  rintro e W1 ⟨rfl, k1, tag, P, KM, hO1, htag⟩
  have hinv1 : RelInv (w.heap.size + 2) 2 P KM ⟨tag, [], .slice none 0 0, []⟩ W1 := ⟨hO1, by simp⟩
  have z1 := k1.size
  have hadd1 := known_add hinv1 (by simp) (n0 := w.heap.size) htag z1 [3, 1] (by intro x hx; simp at hx; rcases hx with rfl | rfl <;> exact ⟨by decide, by decide⟩) (by simp)
  have e1 : addD 2 [] [3, 1] = (0, true, 0) := by decide
  have e1' : addT 2 [] [3, 1] = [[3, 1]] := by decide
  simp only [e1, e1', List.length_cons, List.length_nil, List.map_cons, List.map_nil, Nat.zero_add, Nat.reduceAdd] at hadd1
  obtain ⟨B, hB⟩ : ∃ B, w.heap.size + 2 = B := ⟨_, rfl⟩
  rw [hB] at hadd1 ⊢
  clear hO1 hinv1 htag hB e1 e1'
  have Xhadd1 := Lib.hid hadd1
  have Xk1 := Lib.hid k1
  clear hadd1 k1
  go_wp2_with fail
  refine (num_any _ _).mono ?_
  rintro e W1' ⟨rfl, hW⟩
  have hW := hW.symm
  subst hW
  go_wp2_with fail
  refine Xhadd1.out.mono ?_
  rintro e W2 ⟨rfl, s2, hinv2, hts2, hlow2, k2⟩
  have z2 := k2.size
  have hadd2 := known_add hinv2 (by rw [hts2]; simp) hlow2 (by omega) [0, 1] (by intro x hx; simp at hx; rcases hx with rfl | rfl <;> exact ⟨by decide, by decide⟩) (by simp)
  rw [hts2] at hadd2
  have e2 : addD 2 [[3, 1]] [0, 1] = (1, true, 0) := by decide
  have e2' : addT 2 [[3, 1]] [0, 1] = [[3, 1], [0, 1]] := by decide
  simp only [e2, e2', List.length_cons, List.length_nil, List.map_cons, List.map_nil, Nat.zero_add, Nat.reduceAdd] at hadd2
  clear hinv2 hts2 hlow2 e2 e2'
  have Xhadd2 := Lib.hid hadd2
  have Xk2 := Lib.hid k2
  clear hadd2 k2
  go_wp2_with fail
  refine Xhadd2.out.mono ?_
  rintro e W3 ⟨rfl, s3, hinv3, hts3, hlow3, k3⟩
  have z3 := k3.size
  have hadd3 := known_add hinv3 (by rw [hts3]; simp) hlow3 (by omega) [3, 1] (by intro x hx; simp at hx; rcases hx with rfl | rfl <;> exact ⟨by decide, by decide⟩) (by simp)
  rw [hts3] at hadd3
  have e3 : addD 2 [[3, 1], [0, 1]] [3, 1] = (0, false, 0) := by decide
  have e3' : addT 2 [[3, 1], [0, 1]] [3, 1] = [[3, 1], [0, 1]] := by decide
  simp only [e3, e3', List.length_cons, List.length_nil, List.map_cons, List.map_nil, Nat.zero_add, Nat.reduceAdd] at hadd3
  clear hinv3 hts3 hlow3 e3 e3'
  have Xhadd3 := Lib.hid hadd3
  have Xk3 := Lib.hid k3
  clear hadd3 k3
  go_wp2_with fail
  refine Xhadd3.out.mono ?_
  rintro e W4 ⟨rfl, s4, hinv4, hts4, hlow4, k4⟩
  have z4 := k4.size
  obtain ⟨W5, hW5⟩ : ∃ W5, (W4.alloc (.cells #[.int .i64 1] 3)).alloc (.cells #[.int .i64 1] 3) = W5 := ⟨_, rfl⟩
  have k5 : Keep (fun _ => True) W4 W5 := by rw [← hW5]; exact (Keep.alloc _ _ _).trans (Keep.alloc _ _ _)
  have z5 : W5.heap.size = W4.heap.size + 1 + 1 := by rw [← hW5]; simp
  have i1 : IntsIn W5.heap.size W5 (.slice (some ⟨W4.heap.size, 0, none⟩) 1 1) [1] := by
    have h0 := lit_ints W4 [1] (by simp)
    have h1 := ints_stay h0 (w' := W5) (m := W4.heap.size + 1) (by rw [← hW5]; exact Keep.alloc _ _ _) (Nat.le_refl _)
    exact ints_wider h1 (by omega)
  have i2 : IntsIn W5.heap.size W5 (.slice (some ⟨W4.heap.size + 1, 0, none⟩) 1 1) [1] := by
    have h0 := lit_ints (W4.alloc (.cells #[.int .i64 1] 3)) [1] (by simp)
    rw [← hW5]
    exact ints_wider (by simpa using h0) (by simp)
  have hinv5 := hinv4.keep (k5.mono fun _ _ _ => trivial)
  have hfree : ∀ b, W4.heap.size ≤ b → s4.tag b = none := fun b hb => by
    cases hT : s4.tag b with
    | none => rfl
    | some T => have := hinv4.own.lt b T hT; omega
  have hcount := relCount_any hinv5 W5.heap.size _ _ [1] [1] 0 9 i1 i2 (Nat.le_refl _) (by intro x hx; simp at hx; subst hx; exact ⟨by decide, by decide⟩)
    (fun a n' c' e => by injection e with e1; injection e1 with e1; subst e1; exact hfree _ (Nat.le_refl _)) (fun a n' c' e => by injection e with e1; injection e1 with e1; subst e1; exact hfree _ (by simp))
  rw [hts4] at hcount
  have e4 : countD 2 [[3, 1], [0, 1]] [1] [1] 0 9 = (2, 0) := by decide
  rw [e4] at hcount
  have hK5 : Keep (fun b => b < w.heap.size) w W5 := (Xk1.out.mono fun _ _ _ => trivial).trans (Xk2.out.trans (Xk3.out.trans (k4.trans (k5.mono fun _ _ _ => trivial))))
  clear i1 i2 k5 hfree e4 hinv4 k4 z5
  have Xhcount := Lib.hid hcount
  have XhK5 := Lib.hid hK5
  have Xhlow4 := Lib.hid hlow4
  have Xhts4 := Lib.hid hts4
  clear hcount hK5 hlow4 hts4
  go_wp2_with fail
  refine Xhcount.out.mono ?_
  rintro e W6 ⟨rfl, s6, hinv6, hsame6⟩
  have hK6 : Keep (fun _ => True) w W6 := (XhK5.out.trans (hsame6.keep.mono fun b hb h => by
    refine ⟨?_, by have := XhK5.out.size; omega⟩
    cases hT : s4.tag b with
    | none => rfl
    | some T => have := Xhlow4.out b T hT; omega)).mono fun b hb _ => hb
  have hlen6 : (s6.ts.length : Int) = 2 := by rw [hsame6.same, Xhts4.out]; rfl
  have hLen := relLen_any hinv6.own.box
  rw [hlen6] at hLen
  clear hsame6 hinv6 hlen6
  have XhK6 := Lib.hid hK6
  have XhLen := Lib.hid hLen
  clear hK6 hLen
  go_wp2_with fail
  refine (num_any _ _).mono ?_
  rintro e Wn ⟨rfl, hW⟩
  have hW := hW.symm
  subst hW
  go_wp2_with fail
  refine (num_any _ _).mono ?_
  rintro e Wn ⟨rfl, hW⟩
  have hW := hW.symm
  subst hW
  go_wp2_with fail
  refine (num_any _ _).mono ?_
  rintro e Wn ⟨rfl, hW⟩
  have hW := hW.symm
  subst hW
  go_wp2_with fail
  refine (num_any _ _).mono ?_
  rintro e Wn ⟨rfl, hW⟩
  have hW := hW.symm
  subst hW
  go_wp2_with fail
  refine XhLen.out.mono ?_
  rintro e Wn ⟨rfl, hW⟩
  have hW := hW.symm
  subst hW
  go_wp2_with fail
  go_ret
  exact ⟨rfl, XhK6.out⟩
end Go.Proofs
