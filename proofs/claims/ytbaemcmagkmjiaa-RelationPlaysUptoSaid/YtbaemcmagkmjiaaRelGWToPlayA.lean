/- Layer 4, the reference's relation: Add, with what it may write over named more finely. -/
import Derived.Test.YtbaemcmagkmjiaaProg
import Derived.Test.YtbaemcmagkmjiaaRelGToRelH
import Derived.Test.YtbaemcmagkmjiaaRelXToRelY
namespace Go.Proofs
open Go.RowKit Go.Ink
set_option linter.unusedVariables false
set_option linter.unusedSimpArgs false
attribute [local go_sem] Oper.semAt_some

set_option maxRecDepth 100000 in
set_option maxHeartbeats 2000000 in
theorem refAddW_any {F : Nat → Prop} {w : World} {B n : Nat} {ts : List (List Int)} {vL : Value} {svs : List Value} (h : RefOwn F w B n ts vL svs) (hl : ts.length ≤ 536870912) (m : Nat) (v : Value) (t : List Int) (hs : IntsIn m w v t) (hm : m ≤ w.heap.size) :
    Calls Try.prog 36 #[.pointer (some ⟨B, 0, none⟩), v] w fun e w' => e = .returned (.tuple #[.int .i64 (addD n ts t).1, .bool (addD n ts t).2.1, .int .i64 (addD n ts t).2.2]) ∧
      Keep (fun b => b ≠ B ∧ vL.ownBlock ≠ some b) w w' ∧ ∃ F' vL' svs', RefOwn F' w' B n (addT n ts t) vL' svs' ∧ (∀ b, F' b → F b ∨ w.heap.size ≤ b) ∧ ∀ b, vL'.ownBlock = some b → vL.ownBlock = some b ∨ w.heap.size ≤ b := by
  obtain ⟨a, c, rfl, hlt, hct, het⟩ := id hs
  have hB := heap_lt h.box
  have hA := h.lists (by omega)
  have Xh := Lib.hid h
  have Xhs := Lib.hid hs
  have Xhet := Lib.hid het
  have XhA := Lib.hid hA
  clear h hs het hA
  go_enter Try.func36, Try.ntmps36
  go_wp2_with fail
  refine (refTuple_any XhA.out m _ t Xhs.out hm).mono ?_
  rintro e W1 ⟨rfl, k1⟩
  cases hrt : rightD n t with
  | false =>
    have hans : addD n ts t = (0, false, 2) := by unfold addD; rw [hrt]; rfl
    have hT : addT n ts t = ts := by unfold addT; rw [hans]; rfl
    have hO := Xh.out.keep k1 (fun _ _ _ => trivial)
    clear hrt
    have Xhans := Lib.hid hans
    have XhT := Lib.hid hT
    have XhO := Lib.hid hO
    have Xk1 := Lib.hid k1
    clear hans hT hO k1
    go_wp2_with fail
    go_ret3
    exact ⟨by rw [Xhans.out]; try rfl, Xk1.out.mono fun _ _ _ => trivial, F, vL, svs, by rw [XhT.out]; exact XhO.out, fun b hb => .inl hb, fun b hb => .inl hb⟩
  | true =>
    have hA1 := XhA.out.keep (m := w.heap.size) (k1.mono fun _ _ _ => trivial) (Nat.le_refl _) hB
    have hs1 := ints_stay Xhs.out (m := m) (k1.mono fun _ _ _ => trivial) (Nat.le_refl _)
    have z1 := k1.size
    have Xk1 := Lib.hid k1
    have XhA1 := Lib.hid hA1
    have Xhs1 := Lib.hid hs1
    clear k1 hA1 hs1
    go_wp2_with fail
    refine (refPlace_any XhA1.out m _ t Xhs1.out (by omega)).mono ?_
    rintro e W2 ⟨rfl, k2⟩
    have K2 : Keep (fun _ => True) w W2 := Xk1.out.trans k2
    clear k2 Xk1 XhA1 Xhs1
    cases hpl : placeD ts t with
    | some i =>
      have hans : addD n ts t = ((i : Int), false, 0) := by unfold addD; rw [hrt, hpl]; rfl
      have hT : addT n ts t = ts := by unfold addT; rw [hans]; rfl
      have hO := Xh.out.keep K2 (fun _ _ _ => trivial)
      simp only [placeV]
      clear hrt hpl
      have Xhans := Lib.hid hans
      have XhT := Lib.hid hT
      have XhO := Lib.hid hO
      have XK2 := Lib.hid K2
      clear hans hT hO K2
      go_wp2_with fail
      go_ret3
      exact ⟨by rw [Xhans.out]; try rfl, XK2.out.mono fun _ _ _ => trivial, F, vL, svs, by rw [XhT.out]; exact XhO.out, fun b hb => .inl hb, fun b hb => .inl hb⟩
    | none =>
      have hans : addD n ts t = ((ts.length : Int), true, 0) := by unfold addD; rw [hrt, hpl]; rfl
      have hT : addT n ts t = ts ++ [t] := by unfold addT; rw [hans]; rfl
      simp only [placeV]
      clear hrt hpl
      obtain ⟨W3, hW3⟩ : ∃ W3, W2.drew = W3 := ⟨_, rfl⟩
      have K3 : Keep (fun _ => True) w W3 := by rw [← hW3]; exact K2.trans (Keep.drew _ _)
      have s3 : W3.heap.size = W2.heap.size := by rw [← hW3]; simp
      have hO3 := Xh.out.keep K3 (fun _ _ _ => trivial)
      have hs3 := ints_stay Xhs.out (m := m) (K3.mono fun _ _ _ => trivial) (Nat.le_refl _)
      have hcl := slice_cells (sz := 1) ic (fun _ => rfl) (by omega) (E := IntE) (fun b o x h j u hj => by
        have hj0 : j = 0 := by have := (List.getElem?_eq_some_iff.1 hj).1; simp [ic] at this; exact this
        subst hj0
        simp [ic] at hj
        subst hj
        exact h) hs3 rfl
      obtain ⟨v1, W4, hr4, ho4, hk4⟩ := app_copy (P := Try.prog) el_int 23 W3 a t.length c (t.flatMap ic) (flatMap_len _ 1 (fun _ => rfl) _) hcl.1 hcl.2 (flat_one _ (by simp [ic, Value.oneCell']) _) hlt
      obtain ⟨a1, c1, rfl⟩ := own_form ho4
      have hO4 := hO3.keep hk4 (fun _ _ _ => trivial)
      have z4 := hk4.size
      obtain ⟨v5, W5, hr5, ho5, hk5, g5, cap5, hv5, hg5, hl5⟩ := app1 el_list 22 hO4.own [.slice a1 t.length c1] rfl (by simp [Value.oneCell']) (by omega) (by have := K3.size; omega)
      subst hv5
      have hvl : ∀ b, vL.ownBlock = some b → b < w.heap.size := fun b hb => (World.ownsRow.lt Xh.out.own b hb).2
      have K5 : Keep (fun b => b ≠ B ∧ some b ≠ vL.ownBlock) W4 (W5.setCell ⟨B, 1, none⟩ (.slice (some ⟨g5, 0, none⟩) (ts.length + 1) cap5)) := (hk5.mono fun b _ h => h.2).trans ((Keep.setCell (C := fun b => b ≠ B) _ _ _ (by simp)).mono fun b _ h => h.1)
      have z3 := K3.size
      have hBv : some B ≠ vL.ownBlock := fun e => Xh.out.nb e.symm
      have hbox5 := hk5.heap hO4.box hBv
      have hb6 := set_at 1 (.slice (some ⟨g5, 0, none⟩) (ts.length + 1) cap5) hbox5
      have hO6 : RefOwn (fun b => F b ∨ w.heap.size ≤ b) (W5.setCell ⟨B, 1, none⟩ (.slice (some ⟨g5, 0, none⟩) (ts.length + 1) cap5)) B n (ts ++ [t]) (.slice (some ⟨g5, 0, none⟩) (ts.length + 1) cap5) (svs ++ [.slice a1 t.length c1]) := by
        have hnb5 : (Value.slice (some ⟨g5, 0, none⟩) (ts.length + 1) cap5).ownBlock ≠ some B := fun e => by
          simp only [Value.ownBlock, Option.some.injEq] at e
          subst e
          rcases hg5 with h | h
          · exact Xh.out.nb h
          · omega
        refine ⟨hb6, ?_, hnb5, fun b hb => ?_, .inl Xh.out.fb, rows_add hO4.rows ho4 (by omega) (fun b hb => .inl hb) (fun b hb => .inr (by omega)) K5 hg5 (fun b hb => by have := hvl b hb; omega) hlt⟩
        · have := own_kept ho5 (Keep.setCell (C := fun b => b ≠ B) W5 ⟨B, 1, none⟩ (.slice (some ⟨g5, 0, none⟩) (ts.length + 1) cap5) (by simp)) (fun b hb e => hnb5 (by rw [hb, e]))
          simpa using this
        · simp only [Value.ownBlock, Option.some.injEq] at hb
          subst hb
          rcases hg5 with h | h
          · exact .inl (Xh.out.fl _ h)
          · exact .inr (by omega)
      have hKF : Keep (fun b => b ≠ B ∧ vL.ownBlock ≠ some b) w (W5.setCell ⟨B, 1, none⟩ (.slice (some ⟨g5, 0, none⟩) (ts.length + 1) cap5)) := (K3.mono fun _ _ _ => trivial).trans ((hk4.mono fun _ _ _ => trivial).trans (K5.mono fun b _ h => ⟨h.1, fun e => h.2 e.symm⟩))
      have hOn : ∀ b, (Value.slice (some ⟨g5, 0, none⟩) (ts.length + 1) cap5).ownBlock = some b → vL.ownBlock = some b ∨ w.heap.size ≤ b := fun b hb => by
        simp only [Value.ownBlock, Option.some.injEq] at hb
        subst hb
        rcases hg5 with h | h
        · exact .inl h
        · exact .inr (by omega)
      have c3 := cells_of_block hO3.box 1 _ rfl
      have c4 := cells_of_block hO4.box 1 _ rfl
      have c5' := cells_of_block hbox5 1 _ rfl
      have cf := box_free hbox5 1
      simp only [Nat.zero_add] at c3 c4 c5'
      have hB3 : B < W3.heap.size := by omega
      have hB4 : B < W4.heap.size := by omega
      have hB5 : B < W5.heap.size := heap_lt hbox5
      clear hcl ho4 ho5 hg5 hl5 K5 hbox5 hb6 hO3 hs3 hO4 hk5 K3 hvl hBv
      have Xhans := Lib.hid hans
      have XhT := Lib.hid hT
      have XhO6 := Lib.hid hO6
      have XhKF := Lib.hid hKF
      have Xhr4 := Lib.hid hr4
      have Xhr5 := Lib.hid hr5
      have XK2 := Lib.hid K2
      have Xhk4 := Lib.hid hk4
      have XhOn := Lib.hid hOn
      clear hans hT hO6 hKF hr4 hr5 K2 hk4 hOn
      subst hW3
      go_wp2_with fail
      refine region_hoist rfl (fun W => W.cell? ⟨B, 1, none⟩ = some vL) [11] ?_
      have XhS0 := Lib.hid c3
      refine hoist_take (i := 0) (v := ?_) rfl (by kernel_rfl) (by kernel_rfl) (by kernel_rfl) (by kernel_rfl) (fun _ _ _ h => h) XhS0.out (Or.inl ⟨by rfl, ?_⟩) ?_
      rotate_left
      · intro Wq hWq
        obtain x0 := hWq
        go_simp
        try with_reducible rfl
      try simp only [Act.put, List.getElem_toArray, List.getElem_cons_zero, List.getElem_cons_succ, List.setIfInBounds_toArray, List.set_cons_zero, List.set_cons_succ]
      refine hoist_take (i := 1) (v := ?_) rfl (by kernel_rfl) (by kernel_rfl) (by kernel_rfl) (by kernel_rfl) (fun _ _ _ h => h) XhS0.out (Or.inl ⟨by rfl, ?_⟩) ?_
      rotate_left
      · intro Wq hWq
        obtain x0 := hWq
        go_simp
        try with_reducible rfl
      try simp only [Act.put, List.getElem_toArray, List.getElem_cons_zero, List.getElem_cons_succ, List.setIfInBounds_toArray, List.set_cons_zero, List.set_cons_succ]
      refine hoist_take (i := 2) (v := ?_) rfl (by kernel_rfl) (by kernel_rfl) (by kernel_rfl) (by kernel_rfl) (fun _ _ _ h => h) XhS0.out (Or.inl ⟨by rfl, ?_⟩) ?_
      rotate_left
      · intro Wq hWq
        obtain x0 := hWq
        go_simp
        try with_reducible rfl
      try simp only [Act.put, List.getElem_toArray, List.getElem_cons_zero, List.getElem_cons_succ, List.setIfInBounds_toArray, List.set_cons_zero, List.set_cons_succ]
      refine hoist_take (i := 3) (v := ?_) rfl (by kernel_rfl) (by kernel_rfl) (by kernel_rfl) (by kernel_rfl) (fun _ _ _ h => h) XhS0.out (Or.inl ⟨by rfl, ?_⟩) ?_
      rotate_left
      · intro Wq hWq
        obtain x0 := hWq
        go_simp
        try with_reducible rfl
      try simp only [Act.put, List.getElem_toArray, List.getElem_cons_zero, List.getElem_cons_succ, List.setIfInBounds_toArray, List.set_cons_zero, List.set_cons_succ]
      refine hoist_take (i := 4) (v := ?_) rfl (by kernel_rfl) (by kernel_rfl) (by kernel_rfl) (by kernel_rfl) (fun _ _ _ h => h) XhS0.out (Or.inl ⟨by rfl, ?_⟩) ?_
      rotate_left
      · intro Wq hWq
        obtain x0 := hWq
        go_simp
        try with_reducible rfl
      try simp only [Act.put, List.getElem_toArray, List.getElem_cons_zero, List.getElem_cons_succ, List.setIfInBounds_toArray, List.set_cons_zero, List.set_cons_succ]
      refine hoist_take (i := 5) (v := ?_) rfl (by kernel_rfl) (by kernel_rfl) (by kernel_rfl) (by kernel_rfl) (fun _ _ _ h => h) XhS0.out (Or.inl ⟨by rfl, ?_⟩) ?_
      rotate_left
      · intro Wq hWq
        obtain x0 := hWq
        go_simp
        try with_reducible rfl
      try simp only [Act.put, List.getElem_toArray, List.getElem_cons_zero, List.getElem_cons_succ, List.setIfInBounds_toArray, List.set_cons_zero, List.set_cons_succ]
      refine hoist_one (i := 6) rfl (by kernel_rfl) (fun K hK => ?_)
      have XhK0 := Lib.hid hK
      clear hK
      simp only [List.getElem_toArray, List.getElem_cons_zero, List.getElem_cons_succ, Act.put, List.setIfInBounds_toArray, List.set_cons_zero, List.set_cons_succ]
      refine go_app (v := .slice none 0 0) (u := .slice a t.length c) (v' := .slice a1 t.length c1) (w' := W4) rfl (.const (.slice none 0 0)) (.tmp 28) 23 rfl rfl rfl Xhr4.out ?_
      go_wp2_with fail
      refine XhK0.out _ _ (fun _ => c4) ?_
      refine hoist_one (i := 7) rfl (by kernel_rfl) (fun K hK => ?_)
      have XhK1 := Lib.hid hK
      clear hK
      go_wp2_with fail
      refine XhK1.out _ _ (fun _ => old_cell c4 _) ?_
      refine hoist_one (i := 8) rfl (by kernel_rfl) (fun K hK => ?_)
      have XhK2 := Lib.hid hK
      clear hK
      simp only [List.getElem_toArray, List.getElem_cons_zero, List.getElem_cons_succ, Act.put, List.setIfInBounds_toArray, List.set_cons_zero, List.set_cons_succ]
      refine go_app (v := vL) (u := .slice (some ⟨W4.heap.size, 0, none⟩) 1 1) (v' := .slice (some ⟨g5, 0, none⟩) (ts.length + 1) cap5) (w' := W5) rfl (.tmp 27) (.tmp 30) 22 rfl rfl rfl Xhr5.out ?_
      go_wp2_with fail
      refine XhK2.out _ _ (fun _ => c5') ?_
      refine hoist_one (i := 9) rfl (by kernel_rfl) (fun K hK => ?_)
      have XhK4 := Lib.hid hK
      clear hK
      go_wp2_with fail
      refine XhK4.out _ _ (fun _ => c5') ?_
      refine hoist_one (i := 10) rfl (by kernel_rfl) (fun K hK => ?_)
      have XhK5 := Lib.hid hK
      clear hK
      go_wp2_with fail
      refine XhK5.out _ _ (fun _ => c5') ?_
      refine hoist_one (i := 11) rfl (by kernel_rfl) (fun K hK => ?_)
      have XhK3 := Lib.hid hK
      clear hK
      go_wp2_with fail
      refine XhK3.out _ _ (fun h => by simp at h) ?_
      refine hoist_done (by kernel_rfl) ?_
      refine post_abs (fun W => RefOwn (fun b => F b ∨ w.heap.size ≤ b) W B n (ts ++ [t]) (.slice (some ⟨g5, 0, none⟩) (ts.length + 1) cap5) (svs ++ [.slice a1 t.length c1]) ∧ Keep (fun b => b ≠ B ∧ vL.ownBlock ≠ some b) w W) ⟨XhO6.out, XhKF.out⟩ ?_
      clear XhS0 XhK0 XhK1 XhK2 XhK3 XhK4 XhK5 Xhr4 Xhr5 XhO6 XhKF c3 c4 c5' cf
      rintro W7 ⟨hO7, kw7⟩
      have d1 := cells_of_block hO7.box 1 _ rfl
      simp only [Nat.zero_add] at d1
      have hB7 := heap_lt hO7.box
      have XhO7 := Lib.hid hO7
      have Xkw7 := Lib.hid kw7
      clear hO7 kw7
      go_wp2_with fail
      go_ret3
      exact ⟨by rw [Xhans.out]; try rfl, Xkw7.out, _, _, _, by rw [XhT.out]; exact XhO7.out, fun b hb => hb, XhOn.out⟩
end Go.Proofs

/- Layer 4, the law RelationPlays: adds, with what it may write over named more finely. -/
namespace Go.Proofs
open Go.RowKit Go.Ink
set_option linter.unusedVariables false
set_option linter.unusedSimpArgs false
attribute [local go_sem] Oper.semAt_some

/-- what no step of both writes over -/
def OutW (s : RelS) (Bf : Nat) (vL : Value) (b : Nat) : Prop := s.tag b = none ∧ b ≠ Bf ∧ vL.ownBlock ≠ some b
theorem RefOwn.notF {F : Nat → Prop} {w : World} {B n : Nat} {ts : List (List Int)} {vL : Value} {svs : List Value} (h : RefOwn F w B n ts vL svs) {b : Nat} (hb : ¬ F b) : b ≠ B ∧ vL.ownBlock ≠ some b :=
  ⟨fun e => hb (e ▸ h.fb), fun e => hb (h.fl b e)⟩

set_option maxRecDepth 100000 in
set_option maxHeartbeats 2000000 in
theorem addsW_any {B n P KM : Nat} {s : RelS} {F : Nat → Prop} {Bf : Nat} {vL : Value} {svs : List Value} {w : World} (h : Both B n P KM s F Bf vL svs w) (hfew : s.ts.length < 67108864) (m : Nat) (v : Value) (l : List Int) (hs : IntsIn m w v l) (hm : m ≤ w.heap.size) (hmo : ∀ b, b < m → OutW s Bf vL b) (hok : okT l) :
    Calls Try.prog 14 #[.pointer (some ⟨B, 0, none⟩), .pointer (some ⟨Bf, 0, none⟩), v] w fun e w' => e = .returned (.bool true) ∧
      ∃ s' F' vL' svs', Both B n P KM s' F' Bf vL' svs' w' ∧ s'.ts = addT n s.ts l ∧ BothOn s F w.heap.size s' F' ∧ Keep (OutW s Bf vL) w w' ∧ ∀ b, vL'.ownBlock = some b → vL.ownBlock = some b ∨ w.heap.size ≤ b := by
  obtain ⟨a, c, rfl, hlt, hct, het⟩ := id hs
  have Xh := Lib.hid h
  have Xhs := Lib.hid hs
  have Xhet := Lib.hid het
  have Xhmo := Lib.hid hmo
  have Xhok := Lib.hid hok
  clear h hs het hmo hok
  go_enter Try.func14, Try.ntmps14
  go_wp2_with fail
  refine (lent_any m _ l w Xhs.out hm).mono ?_
  rintro e W1 ⟨v1, rfl, k1, hL1⟩
  have hz1 := k1.size
  have hB1 := Xh.out.keep k1 (fun b _ hb => hb)
  have hi1 := hL1.ints hlt
  obtain ⟨g, cap, rfl, ho1⟩ := id hL1
  have hcp := own_cap ho1
  have hout : ∀ b, w.heap.size ≤ b → Outside s F b := fun b hb => ⟨by
    cases hT : s.tag b with
    | none => rfl
    | some T => have := Xh.out.rel.own.lt b T hT; omega, fun hF => by have := Xh.out.lt b hF; omega⟩
  have hfree : FreeOf s.tag (.slice (some ⟨g, 0, none⟩) l.length cap) := fun a n' c' e => by
    injection e with e1
    injection e1 with e1
    subst e1
    exact (hout g hcp.2.2.2).1
  have hAdd := relAdd_any hB1.rel.own (by omega) W1.heap.size _ l hi1 (Nat.le_refl _) Xhok.out hfree
  clear hi1 hfree
  have Xk1 := Lib.hid k1
  have XhL1 := Lib.hid hL1
  have XhB1 := Lib.hid hB1
  have XhAdd := Lib.hid hAdd
  have Xhout := Lib.hid hout
  have Xho1 := Lib.hid ho1
  have Xhcp := Lib.hid hcp
  clear k1 hL1 hB1 hAdd hout ho1 hcp
  go_wp2_with fail
  refine XhAdd.out.mono ?_
  rintro e W2 ⟨rfl, k2, tag2, vD2, hO2, hle2, hnew2⟩
  obtain ⟨s2, hs2⟩ : ∃ s2 : RelS, s2 = ⟨tag2, addT n s.ts l, vD2, s.lm⟩ := ⟨_, rfl⟩
  have hrel2 : RelInv B n P KM s2 W2 := by rw [hs2]; exact ⟨hO2, by have := addT_len n s.ts l; simp only; omega⟩
  have hbd2 : RelBd s W1.heap.size s2 := by
    rw [hs2]
    exact ⟨addT_pre n s.ts l, hle2, hnew2, fun _ h => h⟩
  have hz2 := k2.size
  have hFt : ∀ b, F b → s2.tag b = none := fun b hF => by
    cases hT : s2.tag b with
    | none => rfl
    | some T =>
      rcases hbd2.new b T hT with ⟨T', h1⟩ | h1
      · rw [Xh.out.apart b hF] at h1; cases h1
      · have := Xh.out.lt b hF; omega
  have href2 := XhB1.out.ref.keep k2 (fun b hb _ => Xh.out.apart b hb)
  have hK12 : Keep (OutW s Bf vL) w W2 := (Xk1.out.mono fun b hb _ => hb).trans (k2.mono fun b _ hb => hb.1)
  have hs2v := ints_stay Xhs.out (m := m) (hK12.mono fun b hb h => Xhmo.out b h) (Nat.le_refl _)
  have hcpg := Xhcp.out
  have hg0 := Xhout.out g hcpg.2.2.2
  have hL2 := XhL1.out.keep k2 (fun b hb _ => (Xhout.out b hb).1)
  have hRA := refAddW_any href2 (by omega) m _ l hs2v (by omega)
  have hts2 : s2.ts = addT n s.ts l := by rw [hs2]
  have hlt2 : ∀ b T, s2.tag b = some T → b < W2.heap.size := fun b T hb => hrel2.own.lt b T hb
  clear k2 hO2 hle2 hnew2 hs2 href2 hs2v
  have Xhrel2 := Lib.hid hrel2
  have Xhbd2 := Lib.hid hbd2
  have XhFt := Lib.hid hFt
  have XhK12 := Lib.hid hK12
  have XhL2 := Lib.hid hL2
  have XhRA := Lib.hid hRA
  have Xhts2 := Lib.hid hts2
  have Xhlt2 := Lib.hid hlt2
  have Xhcpg := Lib.hid hcpg
  clear hrel2 hbd2 hFt hK12 hL2 hRA hts2 hlt2 hcpg
  go_wp2_with fail
  refine XhRA.out.mono ?_
  rintro e W3 ⟨rfl, k3, F3, vL3, svs3, hR3, hF3, hv3⟩
  have hv3' : ∀ b, vL3.ownBlock = some b → vL.ownBlock = some b ∨ w.heap.size ≤ b := fun b hb => (hv3 b hb).imp id (fun h1 => by omega)
  clear hv3
  have hR3' := hR3.cut
  have hF3' : ∀ b, (F3 b ∧ b < W3.heap.size) → F b ∨ W2.heap.size ≤ b := fun b hb => hF3 b hb.1
  have hL3 := XhL2.out.keep k3 (fun b hb _ => Xh.out.ref.notF (Xhout.out b hb).2)
  have hz3 := k3.size
  have hrel3 := Xhrel2.out.keep (k3.mono fun b hb hf => Xh.out.ref.notF fun hF => hf (XhFt.out b hF))
  have hK13 : Keep (OutW s Bf vL) w W3 := XhK12.out.trans (k3.mono fun b _ hb => hb.2)
  have hs3v := ints_stay Xhs.out (m := m) (hK13.mono fun b hb h => Xhmo.out b h) (Nat.le_refl _)
  have hboth : Both B n P KM s2 (fun b => F3 b ∧ b < W3.heap.size) Bf vL3 svs3 W3 := by
    refine ⟨hrel3, by rw [Xhts2.out]; exact hR3', fun b hb => ?_, fun b hb => hb.2⟩
    rcases hF3' b hb with h1 | h1
    · exact XhFt.out b h1
    · cases hT : s2.tag b with
      | none => rfl
      | some T => have := Xhlt2.out b T hT; omega
  have hon : BothOn s F w.heap.size s2 (fun b => F3 b ∧ b < W3.heap.size) := ⟨Xhbd2.out.mono hz1, fun b hb => (hF3' b hb).imp id (fun h1 => by omega)⟩
  have hleft := left_any m w.heap.size _ _ l W3 hL3 hs3v (by omega) hlt
  obtain ⟨g', cap', hge, hL3o⟩ := id hL3
  injection hge with hge1 hge2 hge3
  injection hge1 with hge1
  injection hge1 with hge1
  subst hge1
  subst hge3
  have hloose : LooseIn W3 3 (.slice (some ⟨g, 0, none⟩) l.length l.length) l.length := by
    rcases hL3o.2 with ⟨h1, _⟩ | ⟨g2, c2, cur, h1, _, h3, h4, h5, h6, _⟩
    · cases h1
    · injection h1 with q1 q2 q3
      injection q1 with q1
      injection q1 with q1
      subst q1
      subst q3
      exact .inr ⟨_, _, cur, rfl, h3, Nat.le_refl _, by simp only [maxLen]; omega, by omega⟩
  have hcap2 : l.length + 2 ≤ cap := Xhcpg.out.1
  have hcl1 : (l.length : Int) ≤ cap := by omega
  have hl0 : (0 : Int) ≤ l.length := by omega
  have hgT : s2.tag g = none := by
    cases hT : s2.tag g with
    | none => rfl
    | some T =>
      rcases Xhbd2.out.new g T hT with ⟨T', h1⟩ | h1
      · rw [hg0.1] at h1; cases h1
      · have := Xhcpg.out.2.2.1; omega
  have hgF3 : ¬ (F3 g ∧ g < W3.heap.size) := fun hF => (hF3 g hF.1).elim hg0.2 (fun h1 => by have := Xhcpg.out.2.2.1; omega)
  have hgw : w.heap.size ≤ g := Xhcpg.out.2.2.2
  clear hR3 hR3' hF3 hF3' hL3 k3 hrel3 hs3v hL3o
  have Xhv3' := Lib.hid hv3'
  have Xhboth := Lib.hid hboth
  have Xhon := Lib.hid hon
  have Xhleft := Lib.hid hleft
  have Xhloose := Lib.hid hloose
  have XhK13 := Lib.hid hK13
  have Xhg0 := Lib.hid hg0
  have XhgT := Lib.hid hgT
  have XhgF3 := Lib.hid hgF3
  clear hv3' hboth hon hleft hloose hK13 hg0 hgT hgF3
  obtain ⟨a1, ha1⟩ : ∃ a1, (addD n s.ts l).1 = a1 := ⟨_, rfl⟩
  obtain ⟨a2, ha2⟩ : ∃ a2, (addD n s.ts l).2.1 = a2 := ⟨_, rfl⟩
  obtain ⟨a3, ha3⟩ : ∃ a3, (addD n s.ts l).2.2 = a3 := ⟨_, rfl⟩
  rw [ha1, ha2, ha3]
  clear ha1 ha2 ha3
  go_wp2_with fail
  refine (num_any _ _).mono ?_
  rintro e W3' ⟨rfl, hW3'⟩
  have hW3' := hW3'.symm
  subst hW3'
  go_wp2_with fail
  refine Xhleft.out.mono ?_
  rintro e W4 ⟨rfl, k4⟩
  have hboth4 := Xhboth.out.keep k4 (fun _ _ _ => trivial)
  have hloose4 := Xhloose.out.keep k4 (fun _ _ => trivial)
  have hK14 : Keep (OutW s Bf vL) w W4 := XhK13.out.trans (k4.mono fun _ _ _ => trivial)
  clear k4
  have Xhboth4 := Lib.hid hboth4
  have Xhloose4 := Lib.hid hloose4
  have XhK14 := Lib.hid hK14
  clear hboth4 hloose4 hK14
  go_wp2_with fail
  refine (spoil_any Xhloose4.out hlt).mono ?_
  rintro e W5 ⟨rfl, k5⟩
  have hboth5 := Xhboth4.out.keep k5 (fun b hb hlt5 e => by
    simp only [Value.ownBlock, Option.some.injEq] at e
    subst e
    rcases hb with h1 | h1
    · exact h1 XhgT.out
    · exact XhgF3.out h1)
  have hK15' : Keep (fun b => OutW s Bf vL b ∧ b < w.heap.size) w W5 := (XhK14.out.mono fun b _ h => h.1).trans (k5.mono fun b _ hb e => by
    simp only [Value.ownBlock, Option.some.injEq] at e
    have := hb.2; omega)
  have hK15 : Keep (OutW s Bf vL) w W5 := hK15'.mono fun b hb h => ⟨h, hb⟩
  clear hK15'
  clear k5
  have Xhboth5 := Lib.hid hboth5
  have XhK15 := Lib.hid hK15
  clear hboth5 hK15
  go_wp2_with fail
  go_ret
  exact ⟨rfl, s2, _, vL3, svs3, Xhboth5.out, Xhts2.out, Xhon.out, XhK15.out, Xhv3'.out⟩
end Go.Proofs
