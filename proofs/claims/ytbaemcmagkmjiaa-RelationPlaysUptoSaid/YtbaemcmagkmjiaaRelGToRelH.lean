/- Layer 4, the reference's relation: Add. -/
import Derived.Test.YtbaemcmagkmjiaaProg
import Derived.Test.YtbaemcmagkmjiaaRelEToRelF
import Derived.Test.YtbaemcmagkmjiaaRelBToRelD
import Derived.Test.YtbaemcmagkmjiaaMapsToRelA
import Derived.Laws.Cover3
namespace Go.Proofs
open Go.RowKit Go.Ink
set_option linter.unusedVariables false
set_option linter.unusedSimpArgs false
attribute [local go_sem] Oper.semAt_some

/-- what Add answers, and the tuples behind it -/
def addD (n : Nat) (ts : List (List Int)) (t : List Int) : Int × Bool × Int := if rightD n t = true then (match placeD ts t with | some i => ((i : Int), false, 0) | none => ((ts.length : Int), true, 0)) else (0, false, 2)
def addT (n : Nat) (ts : List (List Int)) (t : List Int) : List (List Int) := if (addD n ts t).2.1 = true then ts ++ [t] else ts

theorem rows_add {F F' : Nat → Prop} {W4 W6 : World} {B base4 g5 m5 c5 c1 : Nat} {vL : Value} {ts : List (List Int)} {svs : List Value} {t : List Int} {a1 : Option Addr} {e : TypeId} (hR : RowsIn F W4 B vL ts svs) (ho : W4.ownsRow base4 e 1 (.slice a1 t.length c1) t.length (t.flatMap ic)) (hB : B < base4)
    (hF : ∀ b, F b → F' b) (hF' : ∀ b, base4 ≤ b → F' b) (hK : Keep (fun b => b ≠ B ∧ some b ≠ vL.ownBlock) W4 W6) (hg : vL.ownBlock = some g5 ∨ W4.heap.size ≤ g5) (hvl : ∀ b, vL.ownBlock = some b → b < base4) (hl : t.length ≤ 1073741824) :
    RowsIn F' W6 B (.slice (some ⟨g5, 0, none⟩) m5 c5) (ts ++ [t]) (svs ++ [.slice a1 t.length c1]) := by
  refine ⟨by simp [hR.1], fun j u hj => ?_⟩
  rcases Nat.lt_or_ge j ts.length with hlt | hge
  · rw [List.getElem?_append_left hlt] at hj
    obtain ⟨a, c, h1, h2, h3, h4⟩ := hR.2 j u hj
    refine ⟨a, c, by rw [List.getElem?_append_left (by rw [hR.1]; exact hlt)]; exact h1, h2, h3, fun k x hk => ?_⟩
    obtain ⟨b, o, e1, e2, e3, e4, e5, e6⟩ := h4 k x hk
    refine ⟨b, o, e1, hF b e2, e3, fun he => ?_, Nat.lt_of_lt_of_le e5 hK.size, hK.cell e6 ⟨e3, fun he => e4 he.symm⟩⟩
    simp only [Value.ownBlock, Option.some.injEq] at he
    subst he
    rcases hg with h | h
    · exact e4 h
    · omega
  · have hje : j = ts.length := by
      have := (List.getElem?_eq_some_iff.1 hj).1
      simp at this; omega
    subst hje
    simp at hj
    subst hj
    have hsv : (svs ++ [Value.slice a1 t.length c1])[ts.length]? = some (.slice a1 t.length c1) := by
      rw [List.getElem?_append_right (by rw [hR.1]; omega), hR.1, Nat.sub_self]; rfl
    rcases ho.2 with ⟨e1, e2⟩ | ⟨g, cap, cur, e1, e2, e3, e4, e5, _⟩
    · have ht : t = [] := List.eq_nil_of_length_eq_zero e2
      injection e1 with q1 q2 q3
      refine ⟨a1, c1, hsv, hl, by rw [e2, q3]; simp [maxLen], fun k x hk => by rw [ht] at hk; simp at hk⟩
    · injection e1 with q1 q2 q3
      subst q1
      subst q3
      refine ⟨_, c1, hsv, hl, ⟨e4, e5⟩, fun k x hk => ⟨g, 0, rfl, hF' g e2, by omega, fun he => ?_, Nat.lt_of_lt_of_le (heap_lt e3) hK.size, ?_⟩⟩
      · simp only [Value.ownBlock, Option.some.injEq] at he
        subst he
        rcases hg with h | h
        · have := hvl _ h; omega
        · have := heap_lt e3; omega
      · have h1 := own_elem ho k (.int .i64 x) (by rw [ic_map, List.getElem?_map, hk]; rfl)
        rw [Nat.zero_add]
        exact hK.cell h1 ⟨by simp only; omega, fun he => by have := hvl g he.symm; omega⟩

set_option maxRecDepth 100000 in
set_option maxHeartbeats 2000000 in
theorem refAdd_any {F : Nat → Prop} {w : World} {B n : Nat} {ts : List (List Int)} {vL : Value} {svs : List Value} (h : RefOwn F w B n ts vL svs) (hl : ts.length ≤ 536870912) (m : Nat) (v : Value) (t : List Int) (hs : IntsIn m w v t) (hm : m ≤ w.heap.size) :
    Calls Try.prog 36 #[.pointer (some ⟨B, 0, none⟩), v] w fun e w' => e = .returned (.tuple #[.int .i64 (addD n ts t).1, .bool (addD n ts t).2.1, .int .i64 (addD n ts t).2.2]) ∧
      Keep (fun b => ¬ F b) w w' ∧ ∃ F' vL' svs', RefOwn F' w' B n (addT n ts t) vL' svs' ∧ ∀ b, F' b → F b ∨ w.heap.size ≤ b := by
  obtain ⟨a, c, rfl, hlt, hct, het⟩ := id hs
  have hB := heap_lt h.box
  have hA := h.lists (by omega)
  have Xh := Lib.hid h
  have Xhs := Lib.hid hs
  have Xhet := Lib.hid het
  have XhA := Lib.hid hA
  clear h hs het hA
  go_enter Try.func36, Try.ntmps36
  go_wp2_with fail
  refine (refTuple_any XhA.out m _ t Xhs.out hm).mono ?_
  rintro e W1 ⟨rfl, k1⟩
  cases hrt : rightD n t with
  | false =>
    have hans : addD n ts t = (0, false, 2) := by unfold addD; rw [hrt]; rfl
    have hT : addT n ts t = ts := by unfold addT; rw [hans]; rfl
    have hO := Xh.out.keep k1 (fun _ _ _ => trivial)
    clear hrt
    have Xhans := Lib.hid hans
    have XhT := Lib.hid hT
    have XhO := Lib.hid hO
    have Xk1 := Lib.hid k1
    clear hans hT hO k1
    go_wp2_with fail
    go_ret3
    exact ⟨by rw [Xhans.out]; try rfl, Xk1.out.mono fun _ _ _ => trivial, F, vL, svs, by rw [XhT.out]; exact XhO.out, fun b hb => .inl hb⟩
  | true =>
    have hA1 := XhA.out.keep (m := w.heap.size) (k1.mono fun _ _ _ => trivial) (Nat.le_refl _) hB
    have hs1 := ints_stay Xhs.out (m := m) (k1.mono fun _ _ _ => trivial) (Nat.le_refl _)
    have z1 := k1.size
    have Xk1 := Lib.hid k1
    have XhA1 := Lib.hid hA1
    have Xhs1 := Lib.hid hs1
    clear k1 hA1 hs1
    go_wp2_with fail
    refine (refPlace_any XhA1.out m _ t Xhs1.out (by omega)).mono ?_
    rintro e W2 ⟨rfl, k2⟩
    have K2 : Keep (fun _ => True) w W2 := Xk1.out.trans k2
    clear k2 Xk1 XhA1 Xhs1
    cases hpl : placeD ts t with
    | some i =>
      have hans : addD n ts t = ((i : Int), false, 0) := by unfold addD; rw [hrt, hpl]; rfl
      have hT : addT n ts t = ts := by unfold addT; rw [hans]; rfl
      have hO := Xh.out.keep K2 (fun _ _ _ => trivial)
      simp only [placeV]
      clear hrt hpl
      have Xhans := Lib.hid hans
      have XhT := Lib.hid hT
      have XhO := Lib.hid hO
      have XK2 := Lib.hid K2
      clear hans hT hO K2
      go_wp2_with fail
      go_ret3
      exact ⟨by rw [Xhans.out]; try rfl, XK2.out.mono fun _ _ _ => trivial, F, vL, svs, by rw [XhT.out]; exact XhO.out, fun b hb => .inl hb⟩
    | none =>
      have hans : addD n ts t = ((ts.length : Int), true, 0) := by unfold addD; rw [hrt, hpl]; rfl
      have hT : addT n ts t = ts ++ [t] := by unfold addT; rw [hans]; rfl
      simp only [placeV]
      clear hrt hpl
      obtain ⟨W3, hW3⟩ : ∃ W3, W2.drew = W3 := ⟨_, rfl⟩
      have K3 : Keep (fun _ => True) w W3 := by rw [← hW3]; exact K2.trans (Keep.drew _ _)
      have s3 : W3.heap.size = W2.heap.size := by rw [← hW3]; simp
      have hO3 := Xh.out.keep K3 (fun _ _ _ => trivial)
      have hs3 := ints_stay Xhs.out (m := m) (K3.mono fun _ _ _ => trivial) (Nat.le_refl _)
      have hcl := slice_cells (sz := 1) ic (fun _ => rfl) (by omega) (E := IntE) (fun b o x h j u hj => by
        have hj0 : j = 0 := by have := (List.getElem?_eq_some_iff.1 hj).1; simp [ic] at this; exact this
        subst hj0
        simp [ic] at hj
        subst hj
        exact h) hs3 rfl
      obtain ⟨v1, W4, hr4, ho4, hk4⟩ := app_copy (P := Try.prog) el_int 23 W3 a t.length c (t.flatMap ic) (flatMap_len _ 1 (fun _ => rfl) _) hcl.1 hcl.2 (flat_one _ (by simp [ic, Value.oneCell']) _) hlt
      obtain ⟨a1, c1, rfl⟩ := own_form ho4
      have hO4 := hO3.keep hk4 (fun _ _ _ => trivial)
      have z4 := hk4.size
      obtain ⟨v5, W5, hr5, ho5, hk5, g5, cap5, hv5, hg5, hl5⟩ := app1 el_list 22 hO4.own [.slice a1 t.length c1] rfl (by simp [Value.oneCell']) (by omega) (by have := K3.size; omega)
      subst hv5
      have hvl : ∀ b, vL.ownBlock = some b → b < w.heap.size := fun b hb => (World.ownsRow.lt Xh.out.own b hb).2
      have K5 : Keep (fun b => b ≠ B ∧ some b ≠ vL.ownBlock) W4 (W5.setCell ⟨B, 1, none⟩ (.slice (some ⟨g5, 0, none⟩) (ts.length + 1) cap5)) := (hk5.mono fun b _ h => h.2).trans ((Keep.setCell (C := fun b => b ≠ B) _ _ _ (by simp)).mono fun b _ h => h.1)
      have z3 := K3.size
      have hBv : some B ≠ vL.ownBlock := fun e => Xh.out.nb e.symm
      have hbox5 := hk5.heap hO4.box hBv
      have hb6 := set_at 1 (.slice (some ⟨g5, 0, none⟩) (ts.length + 1) cap5) hbox5
      have hO6 : RefOwn (fun b => F b ∨ w.heap.size ≤ b) (W5.setCell ⟨B, 1, none⟩ (.slice (some ⟨g5, 0, none⟩) (ts.length + 1) cap5)) B n (ts ++ [t]) (.slice (some ⟨g5, 0, none⟩) (ts.length + 1) cap5) (svs ++ [.slice a1 t.length c1]) := by
        have hnb5 : (Value.slice (some ⟨g5, 0, none⟩) (ts.length + 1) cap5).ownBlock ≠ some B := fun e => by
          simp only [Value.ownBlock, Option.some.injEq] at e
          subst e
          rcases hg5 with h | h
          · exact Xh.out.nb h
          · omega
        refine ⟨hb6, ?_, hnb5, fun b hb => ?_, .inl Xh.out.fb, rows_add hO4.rows ho4 (by omega) (fun b hb => .inl hb) (fun b hb => .inr (by omega)) K5 hg5 (fun b hb => by have := hvl b hb; omega) hlt⟩
        · have := own_kept ho5 (Keep.setCell (C := fun b => b ≠ B) W5 ⟨B, 1, none⟩ (.slice (some ⟨g5, 0, none⟩) (ts.length + 1) cap5) (by simp)) (fun b hb e => hnb5 (by rw [hb, e]))
          simpa using this
        · simp only [Value.ownBlock, Option.some.injEq] at hb
          subst hb
          rcases hg5 with h | h
          · exact .inl (Xh.out.fl _ h)
          · exact .inr (by omega)
      have hKF : Keep (fun b => ¬ F b) w (W5.setCell ⟨B, 1, none⟩ (.slice (some ⟨g5, 0, none⟩) (ts.length + 1) cap5)) := (K3.mono fun _ _ _ => trivial).trans ((hk4.mono fun _ _ _ => trivial).trans (K5.mono fun b _ h => ⟨fun e => h (e ▸ Xh.out.fb), fun e => h (Xh.out.fl b e.symm)⟩))
      have c3 := cells_of_block hO3.box 1 _ rfl
      have c4 := cells_of_block hO4.box 1 _ rfl
      have c5' := cells_of_block hbox5 1 _ rfl
      have cf := box_free hbox5 1
      simp only [Nat.zero_add] at c3 c4 c5'
      have hB3 : B < W3.heap.size := by omega
      have hB4 : B < W4.heap.size := by omega
      have hB5 : B < W5.heap.size := heap_lt hbox5
      clear hcl ho4 ho5 hg5 hl5 K5 hbox5 hb6 hO3 hs3 hO4 hk5 K3 hvl hBv
      have Xhans := Lib.hid hans
      have XhT := Lib.hid hT
      have XhO6 := Lib.hid hO6
      have XhKF := Lib.hid hKF
      have Xhr4 := Lib.hid hr4
      have Xhr5 := Lib.hid hr5
      have XK2 := Lib.hid K2
      have Xhk4 := Lib.hid hk4
      clear hans hT hO6 hKF hr4 hr5 K2 hk4
      subst hW3
      go_wp2_with fail
      refine region_hoist rfl (fun W => W.cell? ⟨B, 1, none⟩ = some vL) [11] ?_
      have XhS0 := Lib.hid c3
      refine hoist_take (i := 0) (v := ?_) rfl (by kernel_rfl) (by kernel_rfl) (by kernel_rfl) (by kernel_rfl) (fun _ _ _ h => h) XhS0.out (Or.inl ⟨by rfl, ?_⟩) ?_
      rotate_left
      · intro Wq hWq
        obtain x0 := hWq
        go_simp
        try with_reducible rfl
      try simp only [Act.put, List.getElem_toArray, List.getElem_cons_zero, List.getElem_cons_succ, List.setIfInBounds_toArray, List.set_cons_zero, List.set_cons_succ]
      refine hoist_take (i := 1) (v := ?_) rfl (by kernel_rfl) (by kernel_rfl) (by kernel_rfl) (by kernel_rfl) (fun _ _ _ h => h) XhS0.out (Or.inl ⟨by rfl, ?_⟩) ?_
      rotate_left
      · intro Wq hWq
        obtain x0 := hWq
        go_simp
        try with_reducible rfl
      try simp only [Act.put, List.getElem_toArray, List.getElem_cons_zero, List.getElem_cons_succ, List.setIfInBounds_toArray, List.set_cons_zero, List.set_cons_succ]
      refine hoist_take (i := 2) (v := ?_) rfl (by kernel_rfl) (by kernel_rfl) (by kernel_rfl) (by kernel_rfl) (fun _ _ _ h => h) XhS0.out (Or.inl ⟨by rfl, ?_⟩) ?_
      rotate_left
      · intro Wq hWq
        obtain x0 := hWq
        go_simp
        try with_reducible rfl
      try simp only [Act.put, List.getElem_toArray, List.getElem_cons_zero, List.getElem_cons_succ, List.setIfInBounds_toArray, List.set_cons_zero, List.set_cons_succ]
      refine hoist_take (i := 3) (v := ?_) rfl (by kernel_rfl) (by kernel_rfl) (by kernel_rfl) (by kernel_rfl) (fun _ _ _ h => h) XhS0.out (Or.inl ⟨by rfl, ?_⟩) ?_
      rotate_left
      · intro Wq hWq
        obtain x0 := hWq
        go_simp
        try with_reducible rfl
      try simp only [Act.put, List.getElem_toArray, List.getElem_cons_zero, List.getElem_cons_succ, List.setIfInBounds_toArray, List.set_cons_zero, List.set_cons_succ]
      refine hoist_take (i := 4) (v := ?_) rfl (by kernel_rfl) (by kernel_rfl) (by kernel_rfl) (by kernel_rfl) (fun _ _ _ h => h) XhS0.out (Or.inl ⟨by rfl, ?_⟩) ?_
      rotate_left
      · intro Wq hWq
        obtain x0 := hWq
        go_simp
        try with_reducible rfl
      try simp only [Act.put, List.getElem_toArray, List.getElem_cons_zero, List.getElem_cons_succ, List.setIfInBounds_toArray, List.set_cons_zero, List.set_cons_succ]
      refine hoist_take (i := 5) (v := ?_) rfl (by kernel_rfl) (by kernel_rfl) (by kernel_rfl) (by kernel_rfl) (fun _ _ _ h => h) XhS0.out (Or.inl ⟨by rfl, ?_⟩) ?_
      rotate_left
      · intro Wq hWq
        obtain x0 := hWq
        go_simp
        try with_reducible rfl
      try simp only [Act.put, List.getElem_toArray, List.getElem_cons_zero, List.getElem_cons_succ, List.setIfInBounds_toArray, List.set_cons_zero, List.set_cons_succ]
      refine hoist_one (i := 6) rfl (by kernel_rfl) (fun K hK => ?_)
      have XhK0 := Lib.hid hK
      clear hK
      simp only [List.getElem_toArray, List.getElem_cons_zero, List.getElem_cons_succ, Act.put, List.setIfInBounds_toArray, List.set_cons_zero, List.set_cons_succ]
      refine go_app (v := .slice none 0 0) (u := .slice a t.length c) (v' := .slice a1 t.length c1) (w' := W4) rfl (.const (.slice none 0 0)) (.tmp 28) 23 rfl rfl rfl Xhr4.out ?_
      go_wp2_with fail
      refine XhK0.out _ _ (fun _ => c4) ?_
      refine hoist_one (i := 7) rfl (by kernel_rfl) (fun K hK => ?_)
      have XhK1 := Lib.hid hK
      clear hK
      go_wp2_with fail
      refine XhK1.out _ _ (fun _ => old_cell c4 _) ?_
      refine hoist_one (i := 8) rfl (by kernel_rfl) (fun K hK => ?_)
      have XhK2 := Lib.hid hK
      clear hK
      simp only [List.getElem_toArray, List.getElem_cons_zero, List.getElem_cons_succ, Act.put, List.setIfInBounds_toArray, List.set_cons_zero, List.set_cons_succ]
      refine go_app (v := vL) (u := .slice (some ⟨W4.heap.size, 0, none⟩) 1 1) (v' := .slice (some ⟨g5, 0, none⟩) (ts.length + 1) cap5) (w' := W5) rfl (.tmp 27) (.tmp 30) 22 rfl rfl rfl Xhr5.out ?_
      go_wp2_with fail
      refine XhK2.out _ _ (fun _ => c5') ?_
      refine hoist_one (i := 9) rfl (by kernel_rfl) (fun K hK => ?_)
      have XhK4 := Lib.hid hK
      clear hK
      go_wp2_with fail
      refine XhK4.out _ _ (fun _ => c5') ?_
      refine hoist_one (i := 10) rfl (by kernel_rfl) (fun K hK => ?_)
      have XhK5 := Lib.hid hK
      clear hK
      go_wp2_with fail
      refine XhK5.out _ _ (fun _ => c5') ?_
      refine hoist_one (i := 11) rfl (by kernel_rfl) (fun K hK => ?_)
      have XhK3 := Lib.hid hK
      clear hK
      go_wp2_with fail
      refine XhK3.out _ _ (fun h => by simp at h) ?_
      refine hoist_done (by kernel_rfl) ?_
      refine post_abs (fun W => RefOwn (fun b => F b ∨ w.heap.size ≤ b) W B n (ts ++ [t]) (.slice (some ⟨g5, 0, none⟩) (ts.length + 1) cap5) (svs ++ [.slice a1 t.length c1]) ∧ Keep (fun b => ¬ F b) w W) ⟨XhO6.out, XhKF.out⟩ ?_
      clear XhS0 XhK0 XhK1 XhK2 XhK3 XhK4 XhK5 Xhr4 Xhr5 XhO6 XhKF c3 c4 c5' cf
      rintro W7 ⟨hO7, kw7⟩
      have d1 := cells_of_block hO7.box 1 _ rfl
      simp only [Nat.zero_add] at d1
      have hB7 := heap_lt hO7.box
      have XhO7 := Lib.hid hO7
      have Xkw7 := Lib.hid kw7
      clear hO7 kw7
      go_wp2_with fail
      go_ret3
      exact ⟨by rw [Xhans.out]; try rfl, Xkw7.out, _, _, _, by rw [XhT.out]; exact XhO7.out, fun b hb => hb⟩
end Go.Proofs

/- Layer 4, the program's relation: made, Len, right, New's box. -/
namespace Go.Proofs
open Go.RowKit Go.Ink
set_option linter.unusedVariables false
set_option linter.unusedSimpArgs false
attribute [local go_sem] Oper.semAt_some

/-- the cells of a relation that is made -/
def relCells (n : Nat) (vD : Value) (c P K : Nat) : List Value := [.int .i64 (n : Int), vD, .int .i64 (c : Int), .map (some P), .map (some K)]

set_option maxRecDepth 100000 in
theorem made_nil (w : World) : Calls Try.prog 39 #[.pointer none] w fun e w' => e = .returned (.bool false) ∧ w' = w := by
  go_enter Try.func39, Try.ntmps39
  go_wp2
  go_ret
  exact ⟨rfl, rfl⟩
set_option maxRecDepth 100000 in
theorem made_any {w : World} {B n c P K : Nat} {vD : Value} (h : w.heap[B]? = some (.cells (relCells n vD c P K).toArray 79 (0, 0))) : Calls Try.prog 39 #[.pointer (some ⟨B, 0, none⟩)] w fun e w' => e = .returned (.bool true) ∧ w' = w := by
  have c3 := cells_of_block h 3 _ rfl
  have hB := heap_lt h
  simp only [Nat.zero_add] at c3
  clear h
  have hne : ∀ w', (binOp .neq 76 (.map (some P)) (.map none)).run Try.prog w' = .ok (.bool true) w' := fun w' => run_neq_map_nil w' _ _ _ (some P) Try.underlying76
  go_enter Try.func39, Try.ntmps39
  go_wp2
  go_ret
  exact ⟨rfl, rfl⟩
set_option maxRecDepth 100000 in
theorem relLen_nil (w : World) : Calls Try.prog 19 #[.pointer none] w fun e w' => e = .returned (.int .i64 0) ∧ w' = w := by
  go_enter Try.func19, Try.ntmps19
  go_wp2_with fail
  refine (made_nil w).mono ?_
  rintro e w1 ⟨rfl, rfl⟩
  go_wp2_with fail
  go_ret
  exact ⟨rfl, rfl⟩
set_option maxRecDepth 100000 in
theorem relLen_any {w : World} {B n c P K : Nat} {vD : Value} (h : w.heap[B]? = some (.cells (relCells n vD c P K).toArray 79 (0, 0))) : Calls Try.prog 19 #[.pointer (some ⟨B, 0, none⟩)] w fun e w' => e = .returned (.int .i64 c) ∧ w' = w := by
  have c2 := cells_of_block h 2 _ rfl
  have hB := heap_lt h
  simp only [Nat.zero_add] at c2
  have Xh := Lib.hid h
  clear h
  go_enter Try.func19, Try.ntmps19
  go_wp2_with fail
  refine (made_any Xh.out).mono ?_
  rintro e w1 ⟨rfl, rfl⟩
  go_wp2_with fail
  go_ret
  exact ⟨rfl, rfl⟩

set_option maxRecDepth 100000 in
theorem right_any {w : World} {B n c P K : Nat} {vD : Value} (h : w.heap[B]? = some (.cells (relCells n vD c P K).toArray 79 (0, 0))) (m : Nat) (v : Value) (t : List Int) (hs : IntsIn m w v t) (hm : m ≤ w.heap.size) :
    Calls Try.prog 40 #[.pointer (some ⟨B, 0, none⟩), v] w fun e w' => e = .returned (.bool (rightD n t)) ∧ Keep (fun _ => True) w w' := by
  obtain ⟨a, cc, rfl, hl, hc, he⟩ := id hs
  have hB := heap_lt h
  have Xh := Lib.hid h
  have Xhs := Lib.hid hs
  have Xhe := Lib.hid he
  clear h hs he
  go_enter Try.func40, Try.ntmps40
  go_wp2_with fail
  go_loopw [9] (fun i wr => ∃ k : Nat, k ≤ t.length ∧ i = .int .i64 k ∧ Keep (fun _ => True) w wr ∧ (t.take k).all (fun x => decide (0 ≤ x)) = true) (fun i _ => t.length - (intOf i).toNat)
  case atStart => exact ⟨0, by omega, rfl, Keep.refl _ _, rfl⟩
  case round =>
    obtain ⟨k, hk, rfl, hK, hall⟩ := hrel
    have hszk := hK.size
    by_cases hlt : k < t.length
    · obtain ⟨x, hx⟩ : ∃ x, t[k]? = some x := ⟨_, List.getElem?_eq_getElem hlt⟩
      obtain ⟨b, o, rfl, hb, hxa⟩ := Xhe.out k x hx
      have hxa := hK.cell hxa trivial
      simp only [Nat.mul_one] at hxa
      have hb1 : b < wr.heap.size := by omega
      have hlt1 : (k : Int) < t.length := by omega
      have hk0 : (0 : Int) ≤ k := by omega
      by_cases hneg : x < 0
      · have hno : rightD n t = false := by
          rw [Bool.eq_false_iff]
          intro h
          simp only [rightD, Bool.and_eq_true, List.all_eq_true, decide_eq_true_eq] at h
          have := h.2 x (List.mem_of_getElem? hx)
          omega
        clear hall hx
        have Xhno := Lib.hid hno
        have XhK := Lib.hid hK
        clear hno hK
        go_wp2_with fail
        go_ret
        exact ⟨by rw [Xhno.out]; try rfl, XhK.out⟩
      · have hall2 : (t.take (k + 1)).all (fun x => decide (0 ≤ x)) = true := by
          rw [List.take_add_one, hx, List.all_append, hall]
          simp; omega
        clear hall hx
        have Xhall2 := Lib.hid hall2
        have XhK := Lib.hid hK
        clear hall2 hK
        go_wp2_with fail
        go_roundw
        case rel => exact ⟨k + 1, by omega, by go_num, XhK.out, Xhall2.out⟩
        case measure => simp [intOf]; omega
    · obtain rfl : k = t.length := by omega
      rw [List.take_length] at hall
      have hbox := hK.heap Xh.out trivial
      have c0 := cells_of_block hbox 0 _ rfl
      have hBr : B < wr.heap.size := by omega
      simp only [Nat.zero_add] at c0
      clear hbox
      by_cases hlen : t.length = n
      · have hans : rightD n t = true := by simp only [rightD, hall, hlen]; simp
        have hl1 : ((t.length : Int) == n) = true := by simp [hlen]
        clear hall hlen
        have Xhans := Lib.hid hans
        have XhK := Lib.hid hK
        clear hans hK
        go_wp2_with fail
        go_ret
        exact ⟨by rw [Xhans.out]; try rfl, XhK.out⟩
      · have hans : rightD n t = false := by simp [rightD, hlen]
        have hl1 : ((t.length : Int) == n) = false := by rw [beq_eq_false_iff_ne]; omega
        clear hall hlen
        have Xhans := Lib.hid hans
        have XhK := Lib.hid hK
        clear hans hK
        go_wp2_with fail
        go_ret
        exact ⟨by rw [Xhans.out]; try rfl, XhK.out⟩
end Go.Proofs
