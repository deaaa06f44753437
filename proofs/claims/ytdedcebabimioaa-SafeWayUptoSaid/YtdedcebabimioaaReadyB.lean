/- safe.Ready, with the names as a slice. -/
import Derived.Test.YtdedcebabimioaaProg
import Derived.Test.YtdedcebabimioaaReady
import Derived.Test.YtdedcebabimioaaSet
import Derived.Test.YtdedcebabimioaaHoist
namespace Go.Proofs
open Go.RowKit Go.Ink
set_option linter.unusedVariables false
set_option linter.unusedSimpArgs false
attribute [local go_sem] Oper.semAt_some

theorem readyD_once (L : LitD) (ss : List ByteArray) : readyD L (onceL ss) = readyD L ss := by
  unfold readyD
  congr 2
  refine congrArg _ ?_
  funext x
  simp only [onceL_mem]

theorem lit_cells7 {W : World} {B t : Nat} {L : LitD} {sa : Value} (h : W.heap[B]? = some (.cells (litCells L sa).toArray t (0, 0))) :
    W.cell? ⟨B, 0, none⟩ = some (.int .i64 L.kind) ∧ W.cell? ⟨B, 1, none⟩ = some (.string L.atom.pred) ∧ W.cell? ⟨B, 2, none⟩ = some sa ∧ W.cell? ⟨B, 3, none⟩ = some (.bool L.left.var) ∧ W.cell? ⟨B, 4, none⟩ = some (.string L.left.text) ∧ W.cell? ⟨B, 5, none⟩ = some (.bool L.right.var) ∧ W.cell? ⟨B, 6, none⟩ = some (.string L.right.text) := by
  have c0 := cells_of_block h 0 _ rfl
  have c1 := cells_of_block h 1 _ rfl
  have c2 := cells_of_block h 2 _ rfl
  have c3 := cells_of_block h 3 _ rfl
  have c4 := cells_of_block h 4 _ rfl
  have c5 := cells_of_block h 5 _ rfl
  have c6 := cells_of_block h 6 _ rfl
  simp only [Nat.zero_add] at c0 c1 c2 c3 c4 c5 c6
  exact ⟨c0, c1, c2, c3, c4, c5, c6⟩

set_option maxRecDepth 100000 in
set_option maxHeartbeats 2000000 in
theorem readyB_any (n : Nat) (L : LitD) (sa vs : Value) (ss : List ByteArray) (w : World) (hsa : TermsIn n w sa L.atom.args) (hs : StrsIn n w vs ss) (hn : n ≤ w.heap.size) :
    Calls Try.prog 22 #[.agg (litCells L sa).toArray, vs] w fun e w' => e = .returned (.bool (readyD L ss)) ∧ Keep (fun k => k < w.heap.size) w w' := by
  unfold litCells
  obtain ⟨aa, cap, rfl, hlen, hcap, hel⟩ := id hsa
  have Xhsa := Lib.hid hsa
  have Xhs := Lib.hid hs
  have Xhel := Lib.hid hel
  clear hsa hs hel
  go_enter Try.func22, Try.ntmps22
  go_wp2_with fail
  refine wp_abs (fun W => Keep (fun _ => True) w W ∧ W.heap.size = w.heap.size + 1 ∧ W.heap[w.heap.size]? = some (.cells (litCells L (.slice aa L.atom.args.length cap)).toArray 37 (0, 0))) ⟨Keep.alloc _ _ _, by simp, new_block _ _⟩ ?_
  rintro W ⟨k0, s0, n1⟩
  have hS0 := lit_cells7 n1
  have hsW := strs_wider (strs_keep Xhs.out ((k0.mono fun _ _ _ => trivial).trans (Keep.drew _ W))) (show n ≤ W.drew.heap.size by simp; omega)
  have haW := terms_wider (terms_keep Xhsa.out ((k0.mono fun _ _ _ => trivial).trans (Keep.drew _ W))) (show n ≤ W.drew.heap.size by simp; omega)
  have hS0' := lit_cells7 (W := W.drew) n1
  have Xk0 := Lib.hid k0
  have Xn1 := Lib.hid n1
  have XhsW := Lib.hid hsW
  have XhaW := Lib.hid haW
  have XhS0 := Lib.hid hS0
  have XhS0' := Lib.hid hS0'
  clear k0 n1 hsW haW hS0 hS0'
  refine region_hoist rfl (fun W : World => W.cell? ⟨w.heap.size, 0, none⟩ = some (.int .i64 L.kind) ∧ W.cell? ⟨w.heap.size, 1, none⟩ = some (.string L.atom.pred) ∧ W.cell? ⟨w.heap.size, 2, none⟩ = some (.slice aa L.atom.args.length cap) ∧ W.cell? ⟨w.heap.size, 3, none⟩ = some (.bool L.left.var) ∧ W.cell? ⟨w.heap.size, 4, none⟩ = some (.string L.left.text) ∧ W.cell? ⟨w.heap.size, 5, none⟩ = some (.bool L.right.var) ∧ W.cell? ⟨w.heap.size, 6, none⟩ = some (.string L.right.text)) [] ?_
  refine hoist_take (i := 0) (v := ?_) rfl (by kernel_rfl) (by kernel_rfl) (by kernel_rfl) (by kernel_rfl) (fun _ _ _ h => h) XhS0'.out (Or.inl ⟨by rfl, ?_⟩) ?_
  rotate_left
  · intro Wq hWq
    obtain ⟨x0, x1, x2, x3, x4, x5, x6⟩ := hWq
    go_simp
    try with_reducible rfl
  try simp only [Act.put, List.setIfInBounds_toArray, List.set_cons_zero, List.set_cons_succ]
  refine hoist_take (i := 1) (v := ?_) rfl (by kernel_rfl) (by kernel_rfl) (by kernel_rfl) (by kernel_rfl) (fun _ _ _ h => h) XhS0'.out (Or.inl ⟨by rfl, ?_⟩) ?_
  rotate_left
  · intro Wq hWq
    obtain ⟨x0, x1, x2, x3, x4, x5, x6⟩ := hWq
    go_simp
    try with_reducible rfl
  try simp only [Act.put, List.setIfInBounds_toArray, List.set_cons_zero, List.set_cons_succ]
  refine hoist_one (i := 2) rfl (by kernel_rfl) (fun K hK => ?_)
  have XhK0 := Lib.hid hK
  clear hK
  go_wp2_with fail
  refine (set_any _ _ _ _ XhsW.out (Nat.le_refl _)).mono ?_
  rintro e W1 ⟨rfl, k1, hS⟩
  have z1 := k1.size
  have hS1 := lit_cells7 (k1.heap (show W.drew.heap[w.heap.size]? = _ from Xn1.out) (by simp; omega))
  have haW1 := terms_keep XhaW.out k1
  have kw1 : Keep (fun k => k < w.heap.size) w W1 := (Xk0.out.mono fun _ _ _ => trivial).trans ((Keep.drew _ W).trans (k1.mono fun b _ h => by simp; omega))
  have haW2 := terms_wider haW1 z1
  rw [World.size_drew, s0] at hS
  have k1' := Lib.hid k1
  clear k1 haW1
  have XhS := Lib.hid hS
  have XhS1 := Lib.hid hS1
  have XhaW2 := Lib.hid haW2
  have Xkw1 := Lib.hid kw1
  clear hS hS1 haW2 kw1
  go_wp2_with fail
  refine XhK0.out _ _ (fun _ => XhS1.out) ?_
  refine hoist_one (i := 3) rfl (by kernel_rfl) (fun K hK => ?_)
  have XhK1 := Lib.hid hK
  clear hK
  go_wp2_with fail
  refine (ready_any L (.slice aa L.atom.args.length cap) _ _ W1 XhaW2.out XhS.out).mono ?_
  rintro e W2 ⟨rfl, k2⟩
  rw [readyD_once]
  have z2 := k2.size
  have hS2 := lit_cells7 (k2.heap (k1'.out.heap (show W.drew.heap[w.heap.size]? = _ from Xn1.out) (by simp; omega)) (by simp at z1; omega))
  have kw2 : Keep (fun k => k < w.heap.size) w W2 := Xkw1.out.trans (k2.mono fun b _ h => by simp at z1; omega)
  clear k2
  have XhS2 := Lib.hid hS2
  have Xkw2 := Lib.hid kw2
  clear hS2 kw2
  go_wp2_with fail
  refine XhK1.out _ _ (fun _ => XhS2.out) ?_
  refine hoist_one (i := 4) rfl (by kernel_rfl) (fun K hK => ?_)
  have XhK2 := Lib.hid hK
  clear hK
  go_wp2_with fail
  refine XhK2.out _ _ (fun _ => XhS2.out) ?_
  refine hoist_done (by kernel_rfl) ?_
  go_wp2_with fail
  go_ret
  exact ⟨rfl, Xkw2.out⟩
end Go.Proofs
