/- Layer 4, the law RelationPlays: finds. -/
import Derived.Test.YtbaemcmagkmjiaaProg
import Derived.Test.YtbaemcmagkmjiaaPlayI
import Derived.Test.YtbaemcmagkmjiaaRelVToRelW
namespace Go.Proofs
open Go.RowKit Go.Ink
set_option linter.unusedVariables false
set_option linter.unusedSimpArgs false
attribute [local go_sem] Oper.semAt_some

/-- the value of a step -/
def stepV (kd wh fr to lv : Int) (vt vc vk : Value) : Value := .agg #[.int .i64 kd, .int .i64 wh, .int .i64 fr, .int .i64 to, .int .i64 lv, vt, vc, vk]

set_option maxRecDepth 100000 in
set_option maxHeartbeats 4000000 in
theorem finds_any {d : Option SlotD} {w : World} (h : SlotAt d w) (kd wh fr to lv : Int) (vt vc vk : Value) (tu : List Int) (m : Nat) (hm : m ≤ w.heap.size) (ht : IntsIn m w vt tu) (hok : okT tu) :
    Calls Try.prog 45 #[tV d, rV d, stepV kd wh fr to lv vt vc vk] w fun e w' => e = .returned (.bool true) ∧ ∃ d', SlotGo d w d' w' ∧ tsS d' = tsS d := by
  obtain ⟨a, c, rfl, hlt, hct, het⟩ := id ht
  obtain ⟨vT, hvT⟩ : ∃ v, tV d = v := ⟨_, rfl⟩
  obtain ⟨vR, hvR⟩ : ∃ v, rV d = v := ⟨_, rfl⟩
  rw [hvT, hvR]
  unfold stepV
  obtain ⟨W0, hW0⟩ : ∃ W0, w.alloc (.cells #[.int .i64 kd, .int .i64 wh, .int .i64 fr, .int .i64 to, .int .i64 lv, .slice a tu.length c, vc, vk] 61) = W0 := ⟨_, rfl⟩
  obtain ⟨nb, hnb⟩ : ∃ nb, w.heap.size = nb := ⟨_, rfl⟩
  have k0 : Keep (fun _ => True) w W0 := by rw [← hW0]; exact Keep.alloc _ _ _
  have n0 : W0.heap[nb]? = some (.cells #[.int .i64 kd, .int .i64 wh, .int .i64 fr, .int .i64 to, .int .i64 lv, .slice a tu.length c, vc, vk] 61 (0, 0)) := by rw [← hW0, ← hnb]; exact new_block _ _
  have h0 := h.keep k0 (fun _ _ _ => trivial)
  have ht0 := ints_stay ht (m := m) (k0.mono fun _ _ _ => trivial) (Nat.le_refl _)
  have z0 : W0.heap.size = nb + 1 := by rw [← hW0, ← hnb]; simp
  have c2 := cells_of_block n0 2 _ rfl
  have c5 := cells_of_block n0 5 _ rfl
  simp only [Nat.zero_add] at c2 c5
  have l0 : nb < W0.heap.size := by omega
  have hlent := lent_any m _ tu W0 ht0 (by omega)
  clear het
  have Xh := Lib.hid h
  have Xht := Lib.hid ht
  have Xhok := Lib.hid hok
  have Xk0 := Lib.hid k0
  have Xn0 := Lib.hid n0
  have Xh0 := Lib.hid h0
  have Xht0 := Lib.hid ht0
  have Xhlent := Lib.hid hlent
  have XhW0 := Lib.hid hW0
  have XhvT := Lib.hid hvT
  have XhvR := Lib.hid hvR
  have Xc2 := Lib.hid c2
  clear h ht hok k0 n0 h0 ht0 hlent hW0 hvT hvR c2
  go_enter Try.func45, Try.ntmps45
  go_wp2_with fail
  rw [XhW0.out]
  refine Xhlent.out.mono ?_
  rintro e W1 ⟨v1, rfl, k1, hL1⟩
  have h1 := Xh0.out.keep k1 (fun b hb _ => hb)
  have n1 := k1.heap Xn0.out l0
  have hi1 := hL1.ints hlt
  have z1 := k1.size
  obtain ⟨g, cap, rfl, ho1⟩ := id hL1
  have hpl := slotPlace h1 _ tu hi1 Xhok.out
  obtain ⟨pa, pb, hp⟩ : ∃ pa pb, placeV (placeD (tsS d) tu) = .tuple #[.int .i64 pa, .bool pb] := by
    cases placeD (tsS d) tu with
    | none => exact ⟨_, _, rfl⟩
    | some i => exact ⟨_, _, rfl⟩
  rw [hp, XhvT.out] at hpl
  have ht1 := ints_stay Xht0.out (m := m) (k1.mono fun b _ h => by omega) (Nat.le_refl _)
  clear hi1 ho1
  have Xk1 := Lib.hid k1
  have XhL1 := Lib.hid hL1
  have Xh1 := Lib.hid h1
  have Xn1 := Lib.hid n1
  have Xhpl := Lib.hid hpl
  have Xhp := Lib.hid hp
  have Xht1 := Lib.hid ht1
  clear k1 hL1 h1 n1 hpl hp ht1
  clear c5
  go_wp2_with fail
  refine Xhpl.out.mono ?_
  rintro e W2 ⟨rfl, k2⟩
  have h2 := Xh1.out.keep k2 (fun b hb _ => hb)
  have n2 := k2.heap Xn1.out (by omega)
  have z2 := k2.size
  have ht2 := ints_stay Xht1.out (m := m) (k2.mono fun b _ h => by omega) (Nat.le_refl _)
  have hL2 := XhL1.out.keep k2 (fun b _ hb => hb)
  have c5 := cells_of_block n2 5 _ rfl
  simp only [Nat.zero_add] at c5
  have l2 : nb < W2.heap.size := by omega
  have hrp := slotRefPlace h2 _ tu (ints_wider ht2 (by omega))
  rw [Xhp.out, XhvR.out] at hrp
  have k02 : Keep (fun b => b < w.heap.size) w W2 := (Xk0.out.mono fun _ _ _ => trivial).trans ((Xk1.out.mono fun b _ h => by omega).trans (k2.mono fun b _ h => by omega))
  clear k2 Xh1 Xn1 Xht1 XhL1
  have Xh2 := Lib.hid h2
  have Xn2 := Lib.hid n2
  have Xht2 := Lib.hid ht2
  have XhL2 := Lib.hid hL2
  have Xhrp := Lib.hid hrp
  have Xk02 := Lib.hid k02
  clear h2 n2 ht2 hL2 hrp k02
  go_wp2_with fail
  refine Xhrp.out.mono ?_
  rintro e W3 ⟨rfl, k3⟩
  have h3 := Xh2.out.keep k3 (fun b hb _ => hb)
  have n3 := k3.heap Xn2.out (by omega)
  have z3 := k3.size
  have ht3 := ints_stay Xht2.out (m := m) (k3.mono fun b _ h => by omega) (Nat.le_refl _)
  have hL3 := XhL2.out.keep k3 (fun b _ hb => hb)
  have c2 := cells_of_block n3 2 _ rfl
  simp only [Nat.zero_add] at c2
  have l3 : nb < W3.heap.size := by omega
  have hat := slotAt h3 fr
  obtain ⟨tt, htt⟩ : ∃ tt, (atD (tsS d) fr).getD [] = tt := ⟨_, rfl⟩
  obtain ⟨ok, hokk⟩ : ∃ ok, (atD (tsS d) fr).isSome = ok := ⟨_, rfl⟩
  rw [htt, hokk, XhvT.out] at hat
  have k03 : Keep (fun b => b < w.heap.size) w W3 := Xk02.out.trans (k3.mono fun b _ h => by omega)
  clear k3 Xh2 Xn2 Xht2 XhL2 Xk02 c5
  have Xh3 := Lib.hid h3
  have Xn3 := Lib.hid n3
  have Xht3 := Lib.hid ht3
  have XhL3 := Lib.hid hL3
  have Xhat := Lib.hid hat
  have Xhtt := Lib.hid htt
  have Xhokk := Lib.hid hokk
  have Xk03 := Lib.hid k03
  clear h3 n3 ht3 hL3 hat htt hokk k03
  go_wp2_with fail
  refine Xhat.out.mono ?_
  rintro e W4 ⟨v4, rfl, ho4, hl4, k4⟩
  have z4 := k4.size
  have h4 := Xh3.out.keep k4 (fun _ _ _ => trivial)
  have n4 := k4.heap Xn3.out trivial
  have ht4 := ints_stay Xht3.out (m := m) (k4.mono fun _ _ _ => trivial) (Nat.le_refl _)
  have hL4 := XhL3.out.keep k4 (fun _ _ _ => trivial)
  have hra := slotRefAt Xh3.out k4 fr
  rw [Xhtt.out, Xhokk.out, XhvR.out] at hra
  have c2' := cells_of_block n4 2 _ rfl
  have c5 := cells_of_block n4 5 _ rfl
  simp only [Nat.zero_add] at c2' c5
  have l4 : nb < W4.heap.size := by omega
  have k04 : Keep (fun b => b < w.heap.size) w W4 := Xk03.out.trans (k4.mono fun _ _ _ => trivial)
  obtain ⟨a4, c4, rfl⟩ := own_form ho4
  have hle4 : W3.heap.size ≤ W4.heap.size := z4
  clear k4 Xn3 Xht3 XhL3 Xk03 c2
  have Xh4 := Lib.hid h4
  have Xn4 := Lib.hid n4
  have Xht4 := Lib.hid ht4
  have XhL4 := Lib.hid hL4
  have Xhra := Lib.hid hra
  have Xho4 := Lib.hid ho4
  have Xk04 := Lib.hid k04
  clear h4 n4 ht4 hL4 hra ho4 k04
  go_wp2_with fail
  refine Xhra.out.mono ?_
  rintro e W5 ⟨v5, rfl, hi5, hW5⟩
  have hW5 := hW5.symm
  subst hW5
  obtain ⟨a5, c5', rfl, hl5, _, _⟩ := id hi5
  have hleft := left_any m W0.heap.size _ _ tu W4 XhL4.out Xht4.out (by omega) hlt
  have Xhi5 := Lib.hid hi5
  have Xhleft := Lib.hid hleft
  clear hi5 hleft
  go_wp2_with fail
  refine Xhleft.out.mono ?_
  rintro e W6 ⟨rfl, k6⟩
  have z6 := k6.size
  have h6 := Xh4.out.keep k6 (fun _ _ _ => trivial)
  have n6 := k6.heap Xn4.out trivial
  have ho6 := own_kept Xho4.out k6 (fun _ _ => trivial)
  have hi6 := ints_stay Xhi5.out (m := W3.heap.size) (k6.mono fun _ _ _ => trivial) (Nat.le_refl _)
  have k06 : Keep (fun b => b < w.heap.size) w W6 := Xk04.out.trans (k6.mono fun _ _ _ => trivial)
  have hsame := sameL_any W6.heap.size _ _ tt tt W6 (own_ints ho6 hl4) (ints_wider hi6 (by omega)) (Nat.le_refl _)
  rw [decide_eq_true (Eq.refl tt)] at hsame
  have hl6 : nb < W6.heap.size := by omega
  clear k6 Xh4 Xn4 Xht4 XhL4 Xho4 Xhi5 Xk04 c2' c5
  have Xh6 := Lib.hid h6
  have Xn6 := Lib.hid n6
  have Xho6 := Lib.hid ho6
  have Xhi6 := Lib.hid hi6
  have Xk06 := Lib.hid k06
  have Xhsame := Lib.hid hsame
  clear h6 n6 ho6 hi6 k06 hsame
  go_wp2_with fail
  refine Xhsame.out.mono ?_
  rintro e W7 ⟨rfl, k7⟩
  have z7 := k7.size
  have h7 := Xh6.out.keep k7 (fun _ _ _ => trivial)
  have n7 := k7.heap Xn6.out trivial
  have ho7 := own_kept Xho6.out k7 (fun _ _ => trivial)
  have hi7 := ints_stay Xhi6.out (m := W3.heap.size) (k7.mono fun _ _ _ => trivial) (Nat.le_refl _)
  have k07 : Keep (fun b => b < w.heap.size) w W7 := Xk06.out.trans (k7.mono fun _ _ _ => trivial)
  have hspoil := spoil_any (LooseIn.of_own ho7) hl4
  have hob : ∀ b, Value.ownBlock (.slice a4 tt.length c4) = some b → W3.heap.size ≤ b := fun b hb => (World.ownsRow.lt ho7 b hb).1
  have hl7 : nb < W7.heap.size := by omega
  clear k7 Xh6 Xn6 Xho6 Xhi6 Xk06 ho7
  have Xh7 := Lib.hid h7
  have Xn7 := Lib.hid n7
  have Xhi7 := Lib.hid hi7
  have Xk07 := Lib.hid k07
  have Xhspoil := Lib.hid hspoil
  have Xhob := Lib.hid hob
  clear h7 n7 hi7 k07 hspoil hob
  go_wp2_with fail
  refine Xhspoil.out.mono ?_
  rintro e W8 ⟨rfl, k8⟩
  have z8 := k8.size
  have h8 := Xh7.out.keep k8 (fun b _ hn e => hn (Xh3.out.fresh (Xhob.out b e)))
  have n8 := k8.heap Xn7.out (fun e => by have := Xhob.out nb e; omega)
  have hi8 := ints_stay Xhi7.out (m := W3.heap.size) (k8.mono fun b _ h e => by have := Xhob.out b e; omega) (Nat.le_refl _)
  have k08 : Keep (fun b => b < w.heap.size) w W8 := Xk07.out.trans (k8.mono fun b _ h e => by have := Xhob.out b e; omega)
  have c2 := cells_of_block n8 2 _ rfl
  simp only [Nat.zero_add] at c2
  have l8 : nb < W8.heap.size := by omega
  have hat := slotAt h8 fr
  rw [Xhtt.out, Xhokk.out, XhvT.out] at hat
  clear k8 Xh7 Xn7 Xhi7 Xk07 Xhat
  have Xh8 := Lib.hid h8
  have Xn8 := Lib.hid n8
  have Xhi8 := Lib.hid hi8
  have Xk08 := Lib.hid k08
  have Xhat := Lib.hid hat
  clear h8 n8 hi8 k08 hat
  go_wp2_with fail
  refine Xhat.out.mono ?_
  rintro e W9 ⟨v9, rfl, ho9, hl9, k9⟩
  have z9 := k9.size
  have h9 := Xh8.out.keep k9 (fun _ _ _ => trivial)
  have hi9 := ints_stay Xhi8.out (m := W3.heap.size) (k9.mono fun _ _ _ => trivial) (Nat.le_refl _)
  have k09 : Keep (fun b => b < w.heap.size) w W9 := Xk08.out.trans (k9.mono fun _ _ _ => trivial)
  obtain ⟨a9, c9, rfl⟩ := own_form ho9
  have hsame := sameL_any W9.heap.size _ _ tt tt W9 (own_ints ho9 hl9) (ints_wider hi9 (by omega)) (Nat.le_refl _)
  rw [decide_eq_true (Eq.refl tt)] at hsame
  clear k9 Xh8 Xn8 Xhi8 Xk08 c2 ho9 hi9 Xhsame
  have Xh9 := Lib.hid h9
  have Xk09 := Lib.hid k09
  have Xhsame := Lib.hid hsame
  clear h9 k09 hsame
  go_wp2_with fail
  refine Xhsame.out.mono ?_
  rintro e W10 ⟨rfl, k10⟩
  have h10 := Xh9.out.keep k10 (fun _ _ _ => trivial)
  have k010 : Keep (fun b => b < w.heap.size) w W10 := Xk09.out.trans (k10.mono fun _ _ _ => trivial)
  clear k10
  have Xh10 := Lib.hid h10
  have Xk010 := Lib.hid k010
  clear h10 k010
  go_wp2_with fail
  go_ret
  exact ⟨rfl, d, ⟨Xh10.out, SlotOn.refl _ _, Xk010.out.mono fun b _ h => h.2⟩, rfl⟩
end Go.Proofs
