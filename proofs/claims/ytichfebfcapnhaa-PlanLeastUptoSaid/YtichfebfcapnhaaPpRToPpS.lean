/- Layer 16 (plan): the law's twinSizes: sizes in new memory, with a mark behind each list. -/
import Derived.Test.YtichfebfcapnhaaProg
import Derived.Test.YtichfebfcapnhaaPpCToPpE
import Derived.Test.YtichfebfcapnhaaPnX
import Derived.Test.YtichfebfcapnhaaPnRToPnS
import Derived.Test.YtichfebfcapnhaaOwnToRowC
namespace Go.Proofs
open Go.RowKit Go.Ink
set_option linter.unusedVariables false
set_option linter.unusedSimpArgs false
attribute [local go_sem] Oper.semAt_some

def MarkedInts (base : Nat) (w : World) (v : Value) (ds : List Int) : Prop := ∃ g cap, v = .slice (some ⟨g, 0, none⟩) ds.length cap ∧ w.ownsRow base 3 1 (.slice (some ⟨g, 0, none⟩) (ds.length + 1) cap) (ds.length + 1) ((ds ++ [-77]).map (.int .i64))
/-- sizes of one's own, a mark behind each of their lists -/
def SizesMk (base : Nat) (w : World) (v : Value) (ss : List SizeD) (rest : List Value) (m : Nat) : Prop :=
  ∃ qs : List (SizeD × Value), qs.map (·.1) = ss ∧ w.ownsRow base 63 3 v m (qs.flatMap sizeC ++ rest) ∧ ∀ q, q ∈ qs → MarkedInts base w q.2 q.1.dist
def markC : List Value := [.string ⟨#[109, 97, 114, 107]⟩, .int .i64 0, .slice none 0 0]
theorem MarkedInts.keepT {base : Nat} {w w' : World} {v : Value} {ds : List Int} {C : Nat → Prop} (h : MarkedInts base w v ds) (hK : Keep C w w') (hC : ∀ b cs t, base ≤ b → w.heap[b]? = some (.cells cs t (0, 0)) → t = 63 ∨ t = 3 → C b) : MarkedInts base w' v ds := by
  obtain ⟨g, cap, hv, ho⟩ := h
  refine ⟨g, cap, hv, own_kept ho hK (fun b hb => ?_)⟩
  obtain ⟨cs, ht⟩ := own_typed ho hb
  exact hC b cs _ (World.ownsRow.lt ho b hb).1 ht (.inr rfl)
theorem SizesMk.keepT {base : Nat} {w w' : World} {v : Value} {ss : List SizeD} {rest : List Value} {m : Nat} {C : Nat → Prop} (h : SizesMk base w v ss rest m) (hK : Keep C w w') (hC : ∀ b cs t, base ≤ b → w.heap[b]? = some (.cells cs t (0, 0)) → t = 63 ∨ t = 3 → C b) : SizesMk base w' v ss rest m := by
  obtain ⟨qs, hq, ho, hall⟩ := h
  refine ⟨qs, hq, own_kept ho hK (fun b hb => ?_), fun q hm => (hall q hm).keepT hK hC⟩
  obtain ⟨cs, ht⟩ := own_typed ho hb
  exact hC b cs _ (World.ownsRow.lt ho b hb).1 ht (.inl rfl)
theorem SizesMk.mono {base base' : Nat} {w : World} {v : Value} {ss : List SizeD} {rest : List Value} {m : Nat} (h : SizesMk base w v ss rest m) (hb : base' ≤ base) : SizesMk base' w v ss rest m := by
  obtain ⟨qs, hq, ho, hall⟩ := h
  exact ⟨qs, hq, ho.mono hb, fun q hm => by obtain ⟨g, cap, hv, h2⟩ := hall q hm; exact ⟨g, cap, hv, h2.mono hb⟩⟩
/-- one element more -/
theorem SizesMk.app {base : Nat} {w : World} {v : Value} {ss : List SizeD} (h : SizesMk base w v ss [] ss.length) (cs : List Value) (hcs : cs.length = 3) (h1 : ∀ u ∈ cs, u.oneCell' = true) (hl : ss.length ≤ 1073741824) (hbase : base ≤ w.heap.size) :
    ∃ g cap w', (Builtin.append_ #[29, 29] 29 #[v, .slice (some ⟨w.heap.size, 0, none⟩) 1 1]).run Try.prog (w.alloc (.cells cs.toArray 63)) = .ok (.slice (some ⟨g, 0, none⟩) (ss.length + 1) cap) w' ∧ SizesMk base w' (.slice (some ⟨g, 0, none⟩) (ss.length + 1) cap) ss cs (ss.length + 1) ∧
      (∀ e sz u m xs, w.ownsRow base e sz u m xs → e ≠ 63 → w'.ownsRow base e sz u m xs) ∧ (v.ownBlock = some g ∨ w.heap.size ≤ g) ∧ Keep (fun b => some b ≠ v.ownBlock) w w' := by
  obtain ⟨qs, hq, ho, hall⟩ := h
  rw [List.append_nil] at ho
  obtain ⟨v', w', hr, ho2, hk, g, cap, hv, hg, hl2⟩ := app1 (P := Try.prog) el_sizes 29 ho cs hcs h1 (by omega) hbase
  subst hv
  have hoth : ∀ e sz u m xs, w.ownsRow base e sz u m xs → e ≠ 63 → w'.ownsRow base e sz u m xs := fun e sz u m xs ho3 he => own_kept ho3 hk (fun b hb e2 => by
    obtain ⟨c1, t1⟩ := own_typed ho3 hb
    obtain ⟨c2, t2⟩ := own_typed ho e2.symm
    rw [t1] at t2
    cases t2
    exact he rfl)
  exact ⟨g, cap, w', hr, ⟨qs, hq, ho2, fun q hm => by obtain ⟨g', c', hv', h2⟩ := hall q hm; exact ⟨g', c', hv', hoth _ _ _ _ _ h2 (by decide)⟩⟩, hoth, hg, hk⟩

set_option maxRecDepth 100000 in
set_option maxHeartbeats 2000000 in
theorem twinSizes_any (n : Nat) (l : List SizeD) (sv : Value) (w : World) (hl : SizesIn n w sv l) (hn : n ≤ w.heap.size) :
    Calls Try.prog 11 #[sv] w fun e w' => ∃ g cap, e = .returned (.slice (some ⟨g, 0, none⟩) l.length cap) ∧ SizesMk w.heap.size w' (.slice (some ⟨g, 0, none⟩) (l.length + 1) cap) l markC (l.length + 1) ∧ Keep (fun b => b < w.heap.size) w w' := by
  obtain ⟨asl, csl, rfl, hll, hcl, hel⟩ := id hl
  clear hl
  have Xhel := Lib.hid hel
  clear hel
  go_enter Try.func11, Try.ntmps11
  go_wp2_with fail
  go_loopw [3, 4] (fun x3 i' wr => ∃ k : Nat, k ≤ l.length ∧ i' = .int .i64 (k : Int) ∧ Keep (fun b => b < w.heap.size) w wr ∧ SizesMk w.heap.size wr x3 (l.take k) [] (l.take k).length) (fun _ i _ => l.length - (intOf i).toNat)
  case atStart => exact ⟨0, by omega, rfl, Keep.refl _ _, [], rfl, World.ownsRow_nil _ _ _ _, by simp⟩
  case round =>
    obtain ⟨k, hk, rfl, hK, hm⟩ := hrel
    have hsz := hK.size
    have hlk : (l.take k).length = k := by rw [List.length_take]; omega
    obtain ⟨am, cm, rfl⟩ : ∃ a c, u3 = .slice a (l.take k).length c := by
      obtain ⟨qs, _, ho, _⟩ := hm
      exact own_form ho
    by_cases hlt : k < l.length
    · have hlt1 : (k : Int) < l.length := by omega
      have hk0 : (0 : Int) ≤ k := by omega
      obtain ⟨x, hx⟩ : ∃ x, l[k]? = some x := ⟨_, List.getElem?_eq_getElem hlt⟩
      obtain ⟨b4, o4, rfl, hb4, dv, hcl4, hdv⟩ := Xhel.out k x hx
      obtain ⟨ad, cd, rfl, hld, hcd, hed⟩ := id hdv
      have hdc : SliceIn n w 1 IntE (.slice ad x.dist.length cd) x.dist := hdv
      have m0 := hK.cell (hcl4 0 _ rfl) (show b4 < w.heap.size by omega)
      have m1 := hK.cell (hcl4 1 _ rfl) (show b4 < w.heap.size by omega)
      have m2 := hK.cell (hcl4 2 _ rfl) (show b4 < w.heap.size by omega)
      simp only [Nat.add_zero] at m0
      have hb4w : b4 < wr.heap.size := by omega
      have htk : l.take (k + 1) = l.take k ++ [x] := by rw [List.take_add_one, hx]; rfl
      obtain ⟨hs3, hs4⟩ := slice_cells (sz := 1) (fun t : Int => [Value.int .i64 t]) (fun _ => rfl) (by decide) (fun b o x hx j u hu => by
        match j, hu with
        | 0, hu => simp at hu; subst hu; exact hx) hdc rfl
      rw [show x.dist.flatMap (fun t : Int => [Value.int .i64 t]) = x.dist.map (.int .i64) from by induction x.dist with
        | nil => rfl
        | cons y r ih => simp [ih]] at hs3
      obtain ⟨D, hD⟩ : ∃ D, wr.heap.size = D := ⟨_, rfl⟩
      obtain ⟨W5, hW5⟩ : ∃ W5, wr.alloc (.cells #[.string x.pred, .int .i64 x.rows, .slice ad x.dist.length cd] 63) = W5 := ⟨_, rfl⟩
      have k5 : Keep (fun _ => True) wr W5 := by rw [← hW5]; exact Keep.alloc _ _ _
      have z5 : W5.heap.size = wr.heap.size + 1 := by rw [← hW5]; simp
      have bD := new_block wr (.cells #[.string x.pred, .int .i64 x.rows, .slice ad x.dist.length cd] 63)
      rw [hW5, hD] at bD
      have e2 := cells_of_block bD 2 _ rfl
      simp only [Nat.zero_add] at e2
      have hS0 : (fun W : World => W.cell? ⟨D, 2, none⟩ = some (.slice ad x.dist.length cd) ∧ W.cell? ⟨b4, o4 + k * 3 + 2, none⟩ = some (.slice ad x.dist.length cd)) W5.drew := ⟨e2, k5.cell m2 trivial⟩
      have hDl := heap_lt bD
      have hb4l : b4 < W5.heap.size := by omega
      have hSk := fun W (hK : Keep (fun b => b < W5.heap.size) W5 W) => (show (fun W : World => W.cell? ⟨D, 2, none⟩ = some (.slice ad x.dist.length cd) ∧ W.cell? ⟨b4, o4 + k * 3 + 2, none⟩ = some (.slice ad x.dist.length cd)) W from ⟨hK.cell e2 hDl, hK.cell (k5.cell m2 trivial) hb4l⟩)
      have happ := fun W (hW : Keep (fun b => b < W5.heap.size) W5 W) => appA (P := Try.prog) el_ints 61 (base := W5.heap.size) (World.ownsRow_nil W W5.heap.size 3 1) ad x.dist.length cd (x.dist.map (.int .i64)) (by simp)
        (fun q hb j u hj => ((hK.trans (k5.mono fun _ _ _ => trivial)).trans (hW.mono fun b _ h => by have := hsz; omega)).cell (hs3 q hb j u hj) (World.block_lt_of_cell? w _ (hs3 q hb j u hj))) hs4 (by simp [Value.oneCell']) (by omega) hW.size
      simp only [Nat.zero_add, List.nil_append] at happ
      have hkd : Keep (fun b => b < W5.heap.size) W5 W5.drew := Keep.drew _ _
      have hmz : x.dist.length ≤ 1073741824 := hld
      clear hcl4 hdv hed hs3 hs4 hdc hx e2
      have XhK := Lib.hid hK
      have Xhm := Lib.hid hm
      have Xk5 := Lib.hid k5
      have XbD := Lib.hid bD
      have XhS0 := Lib.hid hS0
      have XhSk := Lib.hid hSk
      have Xhapp := Lib.hid happ
      have Xhkd := Lib.hid hkd
      have XhW5 := Lib.hid hW5
      have XhD := Lib.hid hD
      have Xhtk := Lib.hid htk
      have Xhlk := Lib.hid hlk
      clear hK hm k5 bD hS0 hSk happ hkd hW5 hD htk hlk
      go_upto_region 6 with fail
      rw [XhW5.out, XhD.out]
      refine region_hoist rfl (fun W : World => W.cell? ⟨D, 2, none⟩ = some (.slice ad x.dist.length cd) ∧ W.cell? ⟨b4, o4 + k * 3 + 2, none⟩ = some (.slice ad x.dist.length cd)) [13] ?_
      refine hoist_take (i := 0) (v := ?_) rfl (by kernel_rfl) (by kernel_rfl) (by kernel_rfl) (by kernel_rfl) (fun _ _ _ h => h) XhS0.out (Or.inl ⟨by rfl, ?_⟩) ?_
      rotate_left
      · intro Wq hWq
        obtain ⟨x0, x1⟩ := hWq
        go_simp
        try with_reducible rfl
      try simp only [Act.put, List.getElem_toArray, List.getElem_cons_zero, List.getElem_cons_succ, List.setIfInBounds_toArray, List.set_cons_zero, List.set_cons_succ]
      refine hoist_take (i := 1) (v := ?_) rfl (by kernel_rfl) (by kernel_rfl) (by kernel_rfl) (by kernel_rfl) (fun _ _ _ h => h) XhS0.out (Or.inl ⟨by rfl, ?_⟩) ?_
      rotate_left
      · intro Wq hWq
        obtain ⟨x0, x1⟩ := hWq
        go_simp
        try with_reducible rfl
      try simp only [Act.put, List.getElem_toArray, List.getElem_cons_zero, List.getElem_cons_succ, List.setIfInBounds_toArray, List.set_cons_zero, List.set_cons_succ]
      refine hoist_take (i := 5) (v := ?_) rfl (by kernel_rfl) (by kernel_rfl) (by kernel_rfl) (by kernel_rfl) (fun _ _ _ h => h) XhS0.out (Or.inl ⟨by rfl, ?_⟩) ?_
      rotate_left
      · intro Wq hWq
        obtain ⟨x0, x1⟩ := hWq
        go_simp
        try with_reducible rfl
      try simp only [Act.put, List.getElem_toArray, List.getElem_cons_zero, List.getElem_cons_succ, List.setIfInBounds_toArray, List.set_cons_zero, List.set_cons_succ]
      refine hoist_take (i := 6) (v := ?_) rfl (by kernel_rfl) (by kernel_rfl) (by kernel_rfl) (by kernel_rfl) (fun _ _ _ h => h) XhS0.out (Or.inl ⟨by rfl, ?_⟩) ?_
      rotate_left
      · intro Wq hWq
        obtain ⟨x0, x1⟩ := hWq
        go_simp
        try with_reducible rfl
      try simp only [Act.put, List.getElem_toArray, List.getElem_cons_zero, List.getElem_cons_succ, List.setIfInBounds_toArray, List.set_cons_zero, List.set_cons_succ]
      refine hoist_take (i := 7) (v := ?_) rfl (by kernel_rfl) (by kernel_rfl) (by kernel_rfl) (by kernel_rfl) (fun _ _ _ h => h) XhS0.out (Or.inl ⟨by rfl, ?_⟩) ?_
      rotate_left
      · intro Wq hWq
        obtain ⟨x0, x1⟩ := hWq
        go_simp
        try with_reducible rfl
      try simp only [Act.put, List.getElem_toArray, List.getElem_cons_zero, List.getElem_cons_succ, List.setIfInBounds_toArray, List.set_cons_zero, List.set_cons_succ]
      refine hoist_take (i := 8) (v := ?_) rfl (by kernel_rfl) (by kernel_rfl) (by kernel_rfl) (by kernel_rfl) (fun _ _ _ h => h) XhS0.out (Or.inl ⟨by rfl, ?_⟩) ?_
      rotate_left
      · intro Wq hWq
        obtain ⟨x0, x1⟩ := hWq
        go_simp
        try with_reducible rfl
      try simp only [Act.put, List.getElem_toArray, List.getElem_cons_zero, List.getElem_cons_succ, List.setIfInBounds_toArray, List.set_cons_zero, List.set_cons_succ]
      refine hoist_take (i := 9) (v := ?_) rfl (by kernel_rfl) (by kernel_rfl) (by kernel_rfl) (by kernel_rfl) (fun _ _ _ h => h) XhS0.out (Or.inl ⟨by rfl, ?_⟩) ?_
      rotate_left
      · intro Wq hWq
        obtain ⟨x0, x1⟩ := hWq
        go_simp
        try with_reducible rfl
      try simp only [Act.put, List.getElem_toArray, List.getElem_cons_zero, List.getElem_cons_succ, List.setIfInBounds_toArray, List.set_cons_zero, List.set_cons_succ]
      refine hoist_take (i := 10) (v := ?_) rfl (by kernel_rfl) (by kernel_rfl) (by kernel_rfl) (by kernel_rfl) (fun _ _ _ h => h) XhS0.out (Or.inl ⟨by rfl, ?_⟩) ?_
      rotate_left
      · intro Wq hWq
        obtain ⟨x0, x1⟩ := hWq
        go_simp
        try with_reducible rfl
      try simp only [Act.put, List.getElem_toArray, List.getElem_cons_zero, List.getElem_cons_succ, List.setIfInBounds_toArray, List.set_cons_zero, List.set_cons_succ]
      refine hoist_two (i := 2) (j := 3) rfl rfl (by kernel_rfl) (fun K hK => ?wayA) (fun K hK => ?wayB)
      case' wayA =>
        have XhK0 := Lib.hid hK
        clear hK
        obtain ⟨va, w1, hr1, ho1, hg1, hk1⟩ := Xhapp.out _ Xhkd.out
        obtain ⟨ava, cva, rfl⟩ := own_form ho1
        have q1 : Keep (fun b => b < W5.heap.size) W5 w1 := Xhkd.out.trans (hk1.mono fun b _ h e => by
          rcases hg1 b e with h1 | h1
          · simp [Value.ownBlock] at h1
          · simp at h1; omega)
        have hz1 := q1.size
        obtain ⟨v', w2, hr2, ho2, hk2, g, cap, hv, hg2, hl2⟩ := app1 (P := Try.prog) el_ints 61 ho1 [.int .i64 (-77)] rfl (by simp [Value.oneCell']) (by omega) hz1
        subst hv
        have q2 : Keep (fun b => b < W5.heap.size) W5 w2 := q1.trans (hk2.mono fun b _ h e => by
          have := (World.ownsRow.lt ho1 b e.symm).1; omega)
        rw [show x.dist.map (Value.int .i64) ++ [Value.int .i64 (-77)] = (x.dist ++ [-77]).map (Value.int .i64) from by rw [List.map_append]; rfl] at ho2
        clear hk1 hg1 hk2 hg2
        have Xhr1 := Lib.hid hr1
        have Xho1 := Lib.hid ho1
        have Xq1 := Lib.hid q1
        have Xhr2 := Lib.hid hr2
        have Xho2 := Lib.hid ho2
        have Xq2 := Lib.hid q2
        clear hr1 ho1 q1 hr2 ho2 q2
        refine go_app (v := .slice none 0 0) (u := .slice ad x.dist.length cd) (v' := .slice ava x.dist.length cva) (w' := w1) rfl _ (.tmp 17) 61 rfl rfl rfl Xhr1.out ?_
        go_wp2_with fail
        refine XhK0.out _ _ (fun _ => XhSk.out _ Xq1.out) ?_
        refine hoist_one (i := 3) rfl (by kernel_rfl) (fun K hK => ?_)
        have XhK1 := Lib.hid hK
        clear hK
        go_wp2_with fail
        refine XhK1.out _ _ (fun _ => XhSk.out _ (Xq1.out.trans (Keep.alloc _ _ _))) ?_
        refine hoist_one (i := 4) rfl (by kernel_rfl) (fun K hK => ?_)
        have XhK2 := Lib.hid hK
        clear hK
        refine go_app (v := .slice ava x.dist.length cva) (u := .slice (some ⟨w1.heap.size, 0, none⟩) 1 1) (v' := .slice (some ⟨g, 0, none⟩) (x.dist.length + 1) cap) (w' := w2) rfl (.tmp 18) (.tmp 19) 61 rfl rfl rfl Xhr2.out ?_
        go_wp2_with fail
        refine XhK2.out _ _ (fun _ => XhSk.out _ Xq2.out) ?_
        clear XhK0 XhK1 XhK2 Xhr1 Xhr2 Xho1 Xq1 hz1
      case' wayB =>
        have XhK0 := Lib.hid hK
        clear hK
        go_wp2_with fail
        obtain ⟨w1a, hw1a⟩ : ∃ W, (W5.alloc (.cells #[.int .i64 (-77)] 3)).drew = W := ⟨_, rfl⟩
        have r1 : (W5.alloc (.cells #[.int .i64 (-77)] 3)).drew.heap[W5.heap.size]? = some _ := new_block W5 (.cells #[.int .i64 (-77)] 3)
        rw [hw1a] at r1
        have q1a : Keep (fun b => b < W5.heap.size) W5 w1a := by rw [← hw1a]; exact (Keep.alloc _ _ _).trans (Keep.drew _ _)
        obtain ⟨E, hE⟩ : ∃ E, wr.heap.size + 1 = E := ⟨_, rfl⟩
        have hEW : W5.heap.size = E := by omega
        have hz1a : E + 1 ≤ w1a.heap.size := by rw [← hw1a, ← hEW]; simp
        rw [hw1a, hE]
        obtain ⟨va, w1, hr1, ho1, hg1, hk1⟩ := Xhapp.out _ q1a
        obtain ⟨ava, cva, rfl⟩ := own_form ho1
        have hvg : ∀ b, Value.ownBlock (.slice ava x.dist.length cva) = some b → E + 1 ≤ b := fun b e => by
          rcases hg1 b e with h1 | h1
          · simp [Value.ownBlock] at h1
          · omega
        have q1b : Keep (fun b => b < E + 1) w1a w1 := hk1.mono fun b _ h e => by have := hvg b e; omega
        have q1 : Keep (fun b => b < W5.heap.size) W5 w1 := q1a.trans (q1b.mono fun b _ h => by omega)
        rw [hEW] at r1
        have r2 := q1b.heap r1 (show E < E + 1 by omega)
        have c2 := cells_of_block r2 0 _ rfl
        have hz1 := q1.size
        obtain ⟨v', w2, hr2, ho2, g, cap, hv, hg2, hl2, hk2⟩ := appK (P := Try.prog) el_ints 61 ho1 ⟨E, 0, none⟩ 1 1 [.int .i64 (-77)] rfl (fun j u hj => by
          match j, hj with
          | 0, hj => simp at hj; subst hj; rw [show ((⟨E, 0, none⟩ : Addr).add 0) = ⟨E, 0, none⟩ from by unfold Addr.add; split <;> simp_all]; simpa using c2) (by simp [Value.oneCell']) (by omega) (by omega) hz1
        subst hv
        have q2 : Keep (fun b => b < W5.heap.size) W5 w2 := q1.trans (hk2.mono fun b _ h e => by
          subst e
          rcases hg2 with h2 | h2
          · have := hvg _ h2; omega
          · omega)
        rw [show x.dist.map (Value.int .i64) ++ [Value.int .i64 (-77)] = (x.dist ++ [-77]).map (Value.int .i64) from by rw [List.map_append]; rfl] at ho2
        refine XhK0.out _ _ (fun _ => XhSk.out _ q1a) ?_
        clear hk1 hg1 hk2 hg2 q1b hvg r1 r2 c2
        have Xhr1 := Lib.hid hr1
        have Xho1 := Lib.hid ho1
        have Xq1 := Lib.hid q1
        have Xhr2 := Lib.hid hr2
        have Xho2 := Lib.hid ho2
        have Xq2 := Lib.hid q2
        have Xq1a := Lib.hid q1a
        have Xhw1a := Lib.hid hw1a
        have XhE := Lib.hid hE
        clear hr1 ho1 q1 hr2 ho2 q2 q1a hw1a hE
        refine hoist_one (i := 2) rfl (by kernel_rfl) (fun K hK => ?_)
        have XhK1 := Lib.hid hK
        clear hK
        refine go_app (v := .slice none 0 0) (u := .slice ad x.dist.length cd) (v' := .slice ava x.dist.length cva) (w' := w1) rfl _ (.tmp 17) 61 rfl rfl rfl Xhr1.out ?_
        go_wp2_with fail
        refine XhK1.out _ _ (fun _ => XhSk.out _ Xq1.out) ?_
        refine hoist_one (i := 4) rfl (by kernel_rfl) (fun K hK => ?_)
        have XhK2 := Lib.hid hK
        clear hK
        refine go_app (v := .slice ava x.dist.length cva) (u := .slice (some ⟨E, 0, none⟩) 1 1) (v' := .slice (some ⟨g, 0, none⟩) (x.dist.length + 1) cap) (w' := w2) rfl (.tmp 18) (.tmp 19) 61 rfl rfl rfl Xhr2.out ?_
        go_wp2_with fail
        refine XhK2.out _ _ (fun _ => XhSk.out _ Xq2.out) ?_
        clear XhK0 XhK1 XhK2 Xhr1 Xhr2 Xho1 Xq1 hz1 Xq1a Xhw1a XhE hz1a hEW
      all_goals
        have hcap := own_cap Xho2.out
        have hc1 : (x.dist.length : Int) ≤ cap := by omega
        have hc2 : (0 : Int) ≤ x.dist.length := by omega
        have hc3 : x.dist.length ≤ cap := by omega
        refine hoist_one (i := 11) rfl (by kernel_rfl) (fun K hK => ?_)
        have XhK3 := Lib.hid hK
        clear hK
        go_wp2_with fail
        refine XhK3.out _ _ (fun _ => XhSk.out _ Xq2.out) ?_
        refine hoist_one (i := 12) rfl (by kernel_rfl) (fun K hK => ?_)
        have XhK4 := Lib.hid hK
        clear hK
        go_wp2_with fail
        refine XhK4.out _ _ (fun _ => XhSk.out _ Xq2.out) ?_
        refine hoist_one (i := 13) rfl (by kernel_rfl) (fun K hK => ?_)
        have XhK5 := Lib.hid hK
        clear hK
        have bD2 := Xq2.out.heap XbD.out hDl
        have t2 := cells_of_block bD2 2 _ rfl
        have t2f := box_free bD2 2
        simp only [Nat.zero_add] at t2
        have hDl2 := heap_lt bD2
        obtain ⟨W7, hW7⟩ : ∃ W7, w2.setCell ⟨D, 2, none⟩ (.slice (some ⟨g, 0, none⟩) x.dist.length cap) = W7 := ⟨_, rfl⟩
        have k7 : Keep (fun b => b ≠ D) w2 W7 := by rw [← hW7]; exact Keep.setCell _ _ _ (by simp)
        have hz7 := k7.size
        have hz2 := Xq2.out.size
        have bD7 := set_at 2 (.slice (some ⟨g, 0, none⟩) x.dist.length cap) bD2
        rw [hW7] at bD7
        simp only [List.setIfInBounds_toArray, List.set_cons_succ, List.set_cons_zero] at bD7
        have ho7 := own_kept Xho2.out k7 (fun b hb => by have := (World.ownsRow.lt Xho2.out b hb).1; omega)
        have hDe := XhD.out
        have k57 : Keep (fun b => b < wr.heap.size) wr W7 := ((Xk5.out.mono fun _ _ _ => trivial).trans (Xq2.out.mono fun b _ h => by omega)).trans (k7.mono fun b _ h => by omega)
        have hm7 := Xhm.out.keepT k57 (fun b cs t _ h _ => heap_lt h)
        have hK7 : Keep (fun b => b < w.heap.size) w W7 := XhK.out.trans (k57.mono fun b _ h => by omega)
        have v0 := cells_of_block bD7 0 _ rfl
        have v1 := cells_of_block bD7 1 _ rfl
        have v2 := cells_of_block bD7 2 _ rfl
        simp only [Nat.zero_add] at v0 v1 v2
        have hDl7 := heap_lt bD7
        have hlke := Xhlk.out
        obtain ⟨g8, c8, W8, hr8, hm8, hoth8, hg8, hk8⟩ := hm7.app [.string x.pred, .int .i64 x.rows, .slice (some ⟨g, 0, none⟩) x.dist.length cap] rfl (by simp [Value.oneCell']) (by omega) (by omega)
        have hm9 : SizesMk w.heap.size W8 (.slice (some ⟨g8, 0, none⟩) ((l.take (k + 1)).length) c8) (l.take (k + 1)) [] (l.take (k + 1)).length := by
          obtain ⟨qs, hq, ho, hall⟩ := hm8
          rw [Xhtk.out, List.length_append, List.length_singleton]
          refine ⟨qs ++ [(x, .slice (some ⟨g, 0, none⟩) x.dist.length cap)], by rw [List.map_append, hq]; rfl, by rw [List.append_nil, List.flatMap_append]; exact ho, fun q hm => ?_⟩
          rcases List.mem_append.1 hm with hm | hm
          · exact hall q hm
          · simp only [List.mem_singleton] at hm
            subst hm
            exact ⟨g, cap, rfl, hoth8 _ _ _ _ _ (ho7.mono (show w.heap.size ≤ W5.heap.size by omega)) (by decide)⟩
        have hK8 : Keep (fun b => b < w.heap.size) w W8 := hK7.trans (hk8.mono fun b _ h e => by
          obtain ⟨qs, _, ho, _⟩ := hm7
          have := (World.ownsRow.lt ho b e.symm).1; omega)
        have hlk2 : (l.take (k + 1)).length = k + 1 := by rw [List.length_take]; omega
        rw [hlke] at hr8
        rw [hlk2] at hm9
        clear bD2 k7 bD7 ho7 k57 hm7 hK7 hoth8 hg8 hk8 hm8 hDe hlke hcap hc1 hc2 hc3
        have XhW7 := Lib.hid hW7
        have Xhr8 := Lib.hid hr8
        have Xhm9 := Lib.hid hm9
        have XhK8 := Lib.hid hK8
        clear hW7 hr8 hm9 hK8
        go_wp2_with fail
        rw [XhW7.out]
        refine XhK5.out _ _ (fun h => by simp at h) ?_
        refine hoist_done (by kernel_rfl) ?_
        clear XhK3 XhK4 XhK5 XhS0 t2 t2f
        go_wp2_with (at_builtin; refine go_app (v := .slice am k cm) (u := .slice (some ⟨W7.heap.size, 0, none⟩) 1 1) (v' := .slice (some ⟨g8, 0, none⟩) (k + 1) c8) (w' := W8) rfl (.tmp 29) (.tmp 31) 29 rfl rfl rfl Xhr8.out ?_)
        go_roundw
        case rel => exact ⟨k + 1, by omega, by go_num, XhK8.out, by rw [hlk2]; exact Xhm9.out⟩
        case measure => simp [intOf]; omega
    · obtain rfl : k = l.length := by omega
      rw [List.take_length] at hm ⊢
      obtain ⟨g8, c8, W8, hr8, hm8, hoth8, hg8, hk8⟩ := hm.app markC rfl (by simp [markC, Value.oneCell']) hll hsz
      unfold markC at hr8
      have hcap : l.length + 1 ≤ c8 := by
        obtain ⟨qs, _, ho, _⟩ := hm8
        exact (own_cap ho).1
      have hc1 : (l.length : Int) ≤ c8 := by omega
      have hc2 : (0 : Int) ≤ l.length := by omega
      have hc3 : l.length ≤ c8 := by omega
      have hK8 : Keep (fun b => b < w.heap.size) w W8 := hK.trans (hk8.mono fun b _ h e => by
        obtain ⟨qs, _, ho, _⟩ := hm
        have := (World.ownsRow.lt ho b e.symm).1; omega)
      clear hoth8 hg8 hk8 hm hK
      have Xhr8 := Lib.hid hr8
      have Xhm8 := Lib.hid hm8
      have XhK8 := Lib.hid hK8
      clear hr8 hm8 hK8
      go_wp2_with (at_builtin; refine go_app (v := .slice am l.length cm) (u := .slice (some ⟨wr.heap.size, 0, none⟩) 1 1) (v' := .slice (some ⟨g8, 0, none⟩) (l.length + 1) c8) (w' := W8) rfl (.tmp 33) (.tmp 35) 29 rfl rfl rfl Xhr8.out ?_)
      go_ret
      exact ⟨_, _, rfl, Xhm8.out, XhK8.out⟩
end Go.Proofs

/- Layer 16 (plan): the law's left: the sizes with their marks are what they were. -/
namespace Go.Proofs
open Go.RowKit Go.Ink
set_option linter.unusedVariables false
set_option linter.unusedSimpArgs false
attribute [local go_sem] Oper.semAt_some

theorem MarkedInts.ints {base : Nat} {w : World} {v : Value} {ds : List Int} (h : MarkedInts base w v ds) (hl : ds.length ≤ 1073741824) : IntsIn w.heap.size w v ds := by
  obtain ⟨g, cap, hv, ho⟩ := h
  have hc := own_cap ho
  refine ⟨_, cap, hv, hl, ⟨by omega, hc.2.1⟩, fun k x hk => ⟨g, 0, rfl, hc.2.2.1, ?_⟩⟩
  have hlt := (List.getElem?_eq_some_iff.1 hk).1
  have := own_elem ho k (.int .i64 x) (by rw [List.getElem?_map, List.getElem?_append_left hlt, hk]; rfl)
  show w.cell? _ = _
  rw [Nat.mul_one, Nat.zero_add]
  exact this
theorem MarkedInts.mark {base : Nat} {w : World} {v : Value} {ds : List Int} (h : MarkedInts base w v ds) : ∃ g cap, v = .slice (some ⟨g, 0, none⟩) ds.length cap ∧ ds.length + 1 ≤ cap ∧ g < w.heap.size ∧ w.cell? ⟨g, ds.length, none⟩ = some (.int .i64 (-77)) := by
  obtain ⟨g, cap, hv, ho⟩ := h
  have hc := own_cap ho
  refine ⟨g, cap, hv, hc.1, hc.2.2.1, own_elem ho ds.length _ ?_⟩
  rw [List.getElem?_map, List.getElem?_append_right (Nat.le_refl _), Nat.sub_self]
  rfl
theorem SizesMk.at {base : Nat} {w : World} {g m cap : Nat} {ss : List SizeD} {rest : List Value} (h : SizesMk base w (.slice (some ⟨g, 0, none⟩) m cap) ss rest m) {k : Nat} {x : SizeD} (hx : ss[k]? = some x) :
    ∃ dv, MarkedInts base w dv x.dist ∧ CellsE w g (k * 3) [.string x.pred, .int .i64 x.rows, dv] := by
  obtain ⟨qs, hq, ho, hall⟩ := h
  have hd2 : (qs.map (·.1))[k]? = some x := by rw [hq]; exact hx
  rw [List.getElem?_map] at hd2
  obtain ⟨q, hqk, rfl⟩ := Option.map_eq_some_iff.1 hd2
  refine ⟨q.2, hall q (List.mem_of_getElem? hqk), fun j u hu => ?_⟩
  have hj : j < 3 := (List.getElem?_eq_some_iff.1 hu).1
  have hlt : k * 3 + j < (qs.flatMap sizeC).length := by
    rw [sizeC_len]
    have := (List.getElem?_eq_some_iff.1 hqk).1
    omega
  refine own_elem ho _ _ ?_
  rw [List.getElem?_append_left hlt, flatMap_at sizeC 3 (fun _ => rfl) qs k j q hqk hj]
  exact hu
theorem SizesMk.sizes {base : Nat} {w : World} {g cap : Nat} {ss : List SizeD} (h : SizesMk base w (.slice (some ⟨g, 0, none⟩) (ss.length + 1) cap) ss markC (ss.length + 1)) (hl : ss.length ≤ 1073741824) (hd : ∀ s, s ∈ ss → s.dist.length ≤ 1073741824) : SizesIn w.heap.size w (.slice (some ⟨g, 0, none⟩) ss.length cap) ss := by
  have hc : ss.length + 1 ≤ cap ∧ cap ≤ maxLen ∧ g < w.heap.size := by
    obtain ⟨qs, _, ho, _⟩ := h
    have := own_cap ho
    exact ⟨this.1, this.2.1, this.2.2.1⟩
  refine ⟨_, cap, rfl, hl, ⟨by omega, hc.2.1⟩, fun k x hk => ⟨g, 0, rfl, hc.2.2, ?_⟩⟩
  obtain ⟨dv, h1, h2⟩ := h.at hk
  rw [Nat.zero_add]
  exact ⟨dv, h2, h1.ints (hd x (List.mem_of_getElem? hk))⟩
theorem SizesMk.mark {base : Nat} {w : World} {g cap : Nat} {ss : List SizeD} (h : SizesMk base w (.slice (some ⟨g, 0, none⟩) (ss.length + 1) cap) ss markC (ss.length + 1)) : w.cell? ⟨g, ss.length * 3, none⟩ = some (.string ⟨#[109, 97, 114, 107]⟩) := by
  obtain ⟨qs, hq, ho, hall⟩ := h
  refine own_elem ho _ _ ?_
  have hl : (qs.flatMap sizeC).length = ss.length * 3 := by rw [sizeC_len, ← hq, List.length_map]
  rw [List.getElem?_append_right (by omega), hl, Nat.sub_self]
  rfl

set_option maxRecDepth 100000 in
set_option maxHeartbeats 1000000 in
theorem left_any (n base : Nat) (l : List SizeD) (sv : Value) (g cap : Nat) (w : World) (hl : SizesIn n w sv l) (hm : SizesMk base w (.slice (some ⟨g, 0, none⟩) (l.length + 1) cap) l markC (l.length + 1)) (hn : n ≤ w.heap.size) :
    Calls Try.prog 16 #[.slice (some ⟨g, 0, none⟩) l.length cap, sv] w fun e w' => e = .returned (.bool true) ∧ Keep (fun _ => True) w w' := by
  obtain ⟨asl, csl, rfl, hll, hcl, hel⟩ := id hl
  have hd : ∀ s, s ∈ l → s.dist.length ≤ 1073741824 := by
    intro s hs
    obtain ⟨k, hk⟩ := List.mem_iff_getElem?.1 hs
    obtain ⟨_, _, _, _, _, _, ⟨_, _, _, h, _⟩⟩ := hel k s hk
    exact h
  have hsm := hm.sizes hll hd
  have hss := sameSizes_eq w.heap.size _ _ l w hsm (SizesIn.wider hl hn) (Nat.le_refl _)
  have hmark := hm.mark
  have hc : l.length + 1 ≤ cap ∧ g < w.heap.size := by
    obtain ⟨qs, _, ho, _⟩ := hm
    have := own_cap ho
    exact ⟨this.1, this.2.2.1⟩
  have hc1 : (l.length : Int) + 1 ≤ cap := by omega
  have hc2 : (0 : Int) ≤ (l.length : Int) + 1 := by omega
  have hc3 : l.length + 1 ≤ cap := by omega
  have hc4 : (l.length : Int) < (l.length : Int) + 1 := by omega
  have hmm : ((⟨#[109, 97, 114, 107]⟩ : ByteArray) != ⟨#[109, 97, 114, 107]⟩) = false := by simp
  have hgl := hc.2
  clear hsm hl hd
  have Xhm := Lib.hid hm
  have Xhss := Lib.hid hss
  have Xhel := Lib.hid hel
  have Xhc := Lib.hid hc
  clear hm hss hel hc
  go_enter Try.func16, Try.ntmps16
  go_wp2_with fail
  refine Xhss.out.mono ?_
  rintro e W1 ⟨rfl, k1⟩
  have hz1 := k1.size
  have hmark1 := k1.cell hmark trivial
  have hgl1 : g < W1.heap.size := by omega
  clear hmark
  have Xk1 := Lib.hid k1
  clear k1
  go_wp2_with fail
  go_loopw [5] (fun i wr => ∃ k : Nat, k ≤ l.length ∧ i = .int .i64 (k : Int) ∧ wr = W1) (fun i _ => l.length - (intOf i).toNat)
  case atStart => exact ⟨0, by omega, rfl, rfl⟩
  case round =>
    obtain ⟨k, hk, rfl, hw⟩ := hrel
    subst hw
    by_cases hlt : k < l.length
    · have hlt1 : (k : Int) < l.length := by omega
      have hk0 : (0 : Int) ≤ k := by omega
      obtain ⟨x, hx⟩ : ∃ x, l[k]? = some x := ⟨_, List.getElem?_eq_getElem hlt⟩
      obtain ⟨b4, o4, rfl, hb4, dv, hcl4, hdv⟩ := Xhel.out k x hx
      obtain ⟨ad, cd, rfl, hld, -, -⟩ := id hdv
      obtain ⟨mv, hmv, hcm⟩ := Xhm.out.at hx
      obtain ⟨g5, c5, rfl, hc5, hg5, hmk5⟩ := hmv.mark
      have m2 := Xk1.out.cell (hcl4 2 _ rfl) trivial
      have p2 := Xk1.out.cell (hcm 2 _ rfl) trivial
      have q5 := Xk1.out.cell hmk5 trivial
      have hb4w : b4 < wr.heap.size := by omega
      have hg5w : g5 < wr.heap.size := by omega
      have hd1 : (x.dist.length : Int) + 1 ≤ c5 := by omega
      have hd2 : (0 : Int) ≤ (x.dist.length : Int) + 1 := by omega
      have hd3 : x.dist.length + 1 ≤ c5 := by omega
      have hd4 : (x.dist.length : Int) < (x.dist.length : Int) + 1 := by omega
      have hd5 : (0 : Int) ≤ (x.dist.length : Int) := by omega
      have h77 : ((-77 : Int) != -77) = false := by simp
      clear hcl4 hdv hx hmv hcm hmk5
      go_wp2_with fail
      go_roundw
      case rel => exact ⟨k + 1, by omega, by go_num, trivial⟩
      case measure => simp [intOf]; omega
    · obtain rfl : k = l.length := by omega
      have hlt0 : ¬ (l.length : Int) < l.length := by omega
      go_wp2_with fail
      go_ret
      exact ⟨rfl, Xk1.out⟩
end Go.Proofs
