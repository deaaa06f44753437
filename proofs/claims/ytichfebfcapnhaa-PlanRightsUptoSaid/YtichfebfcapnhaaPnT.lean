/- Layer 16 (plan): slices.Clone, by cells; printed by wip/tools/cc/gen_pnt.py. -/
import Derived.Test.YtichfebfcapnhaaProg
import Derived.Test.YtichfebfcapnhaaPnR
import Derived.Laws.Cover3
namespace Go.Proofs
open Go.RowKit Go.Ink
set_option linter.unusedVariables false
set_option linter.unusedSimpArgs false
attribute [local go_sem] Oper.semAt_some

theorem own_empty (w : World) (e : TypeId) (sz : Nat) : (w.alloc (.cells #[] e)).ownsRow w.heap.size e sz (.slice (some ⟨w.heap.size, 0, none⟩) 0 0) 0 [] :=
  ⟨by simp, .inr ⟨w.heap.size, 0, #[], rfl, Nat.le_refl _, new_block w _, Nat.le_refl _, by simp [maxLen], by simp, by simp⟩⟩
theorem eql_nil {T e : TypeId} {sz by' : Nat} (h : ElemOf Try.prog T e sz by') (w : World) (a : Option Addr) (l c : Nat) : (binOp .eql T (.slice a l c) (.slice none 0 0)).run Try.prog w = .ok (.bool a.isNone) w := by
  show ((Op.equal T (.slice a l c) (.slice none 0 0)) >>= fun b => pure (Value.bool b)).run Try.prog w = _
  simp [run_equal_slice_nil w T e a l c h.1]
theorem el_terms : ElemOf Try.prog 23 76 2 24 := elem_of (z := .agg #[.bool false, .string ⟨#[]⟩]) (by kernel_rfl) (by kernel_rfl) rfl (by decide) (by decide)
theorem el_lits : ElemOf Try.prog 26 78 7 96 := elem_of (z := .agg #[.int .i64 0, .string ⟨#[]⟩, .slice none 0 0, .bool false, .string ⟨#[]⟩, .bool false, .string ⟨#[]⟩]) (by kernel_rfl) (by kernel_rfl) rfl (by decide) (by decide)
theorem el_steps : ElemOf Try.prog 32 73 3 56 := elem_of (z := .agg #[.int .i64 0, .slice none 0 0, .slice none 0 0]) (by kernel_rfl) (by kernel_rfl) rfl (by decide) (by decide)

set_option maxRecDepth 100000 in
theorem cloneTerms_raw (a : Option Addr) (m c : Nat) (news : List Value) (w : World) (hl : news.length = m * 2) (hs : ∀ b, a = some b → ∀ j u, news[j]? = some u → w.cell? (b.add j) = some u) (hn : a = none → m = 0) (h1 : ∀ u ∈ news, u.oneCell' = true) (hm : m ≤ 1073741824) :
    Calls Try.prog 64 #[.slice a m c] w fun e w' => ∃ v', e = .returned v' ∧ w'.ownsRow w.heap.size 76 2 v' m news ∧ Keep (fun _ => True) w w' := by
  have hq := fun w a l c => eql_nil el_terms w a l c
  cases a with
  | none =>
    have hm0 := hn rfl
    subst hm0
    have hnil : news = [] := List.eq_nil_of_length_eq_zero (by simpa using hl)
    subst hnil
    clear hl hs hn h1 hm
    go_enter Try.func64, Try.ntmps64
    go_wp2_with fail
    go_ret
    exact ⟨_, rfl, World.ownsRow_nil _ _ _ _, Keep.refl _ _⟩
  | some b =>
    obtain ⟨W0, hW0⟩ : ∃ W0, w.alloc (.cells #[] 76) = W0 := ⟨_, rfl⟩
    have k0 : Keep (fun _ => True) w W0 := by rw [← hW0]; exact Keep.alloc _ _ _
    have o0 := own_empty w 76 2
    rw [hW0] at o0
    obtain ⟨v', W1, hr, ho, hg, hk⟩ := appA (P := Try.prog) el_terms 23 o0 (some b) m c news hl (fun b' hb j u hj => k0.cell (hs b' hb j u hj) trivial) (fun h => by cases h) h1 (by omega) k0.size
    rw [List.nil_append, Nat.zero_add] at ho
    have hk1 : Keep (fun b => b < w.heap.size) w W1 := (k0.mono fun _ _ _ => trivial).trans (hk.mono fun b _ h e => by
      rcases hg b e with h1 | h1
      · simp [Value.ownBlock] at h1; omega
      · have := k0.size; omega)
    have hk2 : Keep (fun _ => True) w W1 := hk1.mono fun b hb _ => hb
    rw [← hW0] at hr
    obtain ⟨a', c', rfl⟩ := own_form ho
    clear hl hs hn h1 hg hk hk1 k0 o0 hW0
    have Xhr := Lib.hid hr
    have Xho := Lib.hid ho
    have Xhk2 := Lib.hid hk2
    clear hr ho hk2
    go_enter Try.func64, Try.ntmps64
    go_wp2_with (at_builtin; refine go_app (v := .slice (some ⟨w.heap.size, 0, none⟩) 0 0) (u := .slice (some b) m c) (v' := .slice a' m c') (w' := W1) rfl (.tmp 5) (.tmp 6) 23 rfl rfl rfl Xhr.out ?_)
    go_ret
    exact ⟨_, rfl, Xho.out, Xhk2.out⟩
set_option maxRecDepth 100000 in
theorem cloneLits_raw (a : Option Addr) (m c : Nat) (news : List Value) (w : World) (hl : news.length = m * 7) (hs : ∀ b, a = some b → ∀ j u, news[j]? = some u → w.cell? (b.add j) = some u) (hn : a = none → m = 0) (h1 : ∀ u ∈ news, u.oneCell' = true) (hm : m ≤ 1073741824) :
    Calls Try.prog 65 #[.slice a m c] w fun e w' => ∃ v', e = .returned v' ∧ w'.ownsRow w.heap.size 78 7 v' m news ∧ Keep (fun _ => True) w w' := by
  have hq := fun w a l c => eql_nil el_lits w a l c
  cases a with
  | none =>
    have hm0 := hn rfl
    subst hm0
    have hnil : news = [] := List.eq_nil_of_length_eq_zero (by simpa using hl)
    subst hnil
    clear hl hs hn h1 hm
    go_enter Try.func65, Try.ntmps65
    go_wp2_with fail
    go_ret
    exact ⟨_, rfl, World.ownsRow_nil _ _ _ _, Keep.refl _ _⟩
  | some b =>
    obtain ⟨W0, hW0⟩ : ∃ W0, w.alloc (.cells #[] 78) = W0 := ⟨_, rfl⟩
    have k0 : Keep (fun _ => True) w W0 := by rw [← hW0]; exact Keep.alloc _ _ _
    have o0 := own_empty w 78 7
    rw [hW0] at o0
    obtain ⟨v', W1, hr, ho, hg, hk⟩ := appA (P := Try.prog) el_lits 26 o0 (some b) m c news hl (fun b' hb j u hj => k0.cell (hs b' hb j u hj) trivial) (fun h => by cases h) h1 (by omega) k0.size
    rw [List.nil_append, Nat.zero_add] at ho
    have hk1 : Keep (fun b => b < w.heap.size) w W1 := (k0.mono fun _ _ _ => trivial).trans (hk.mono fun b _ h e => by
      rcases hg b e with h1 | h1
      · simp [Value.ownBlock] at h1; omega
      · have := k0.size; omega)
    have hk2 : Keep (fun _ => True) w W1 := hk1.mono fun b hb _ => hb
    rw [← hW0] at hr
    obtain ⟨a', c', rfl⟩ := own_form ho
    clear hl hs hn h1 hg hk hk1 k0 o0 hW0
    have Xhr := Lib.hid hr
    have Xho := Lib.hid ho
    have Xhk2 := Lib.hid hk2
    clear hr ho hk2
    go_enter Try.func65, Try.ntmps65
    go_wp2_with (at_builtin; refine go_app (v := .slice (some ⟨w.heap.size, 0, none⟩) 0 0) (u := .slice (some b) m c) (v' := .slice a' m c') (w' := W1) rfl (.tmp 5) (.tmp 6) 26 rfl rfl rfl Xhr.out ?_)
    go_ret
    exact ⟨_, rfl, Xho.out, Xhk2.out⟩
set_option maxRecDepth 100000 in
theorem cloneSteps_raw (a : Option Addr) (m c : Nat) (news : List Value) (w : World) (hl : news.length = m * 3) (hs : ∀ b, a = some b → ∀ j u, news[j]? = some u → w.cell? (b.add j) = some u) (hn : a = none → m = 0) (h1 : ∀ u ∈ news, u.oneCell' = true) (hm : m ≤ 1073741824) :
    Calls Try.prog 60 #[.slice a m c] w fun e w' => ∃ v', e = .returned v' ∧ w'.ownsRow w.heap.size 73 3 v' m news ∧ Keep (fun _ => True) w w' := by
  have hq := fun w a l c => eql_nil el_steps w a l c
  cases a with
  | none =>
    have hm0 := hn rfl
    subst hm0
    have hnil : news = [] := List.eq_nil_of_length_eq_zero (by simpa using hl)
    subst hnil
    clear hl hs hn h1 hm
    go_enter Try.func60, Try.ntmps60
    go_wp2_with fail
    go_ret
    exact ⟨_, rfl, World.ownsRow_nil _ _ _ _, Keep.refl _ _⟩
  | some b =>
    obtain ⟨W0, hW0⟩ : ∃ W0, w.alloc (.cells #[] 73) = W0 := ⟨_, rfl⟩
    have k0 : Keep (fun _ => True) w W0 := by rw [← hW0]; exact Keep.alloc _ _ _
    have o0 := own_empty w 73 3
    rw [hW0] at o0
    obtain ⟨v', W1, hr, ho, hg, hk⟩ := appA (P := Try.prog) el_steps 32 o0 (some b) m c news hl (fun b' hb j u hj => k0.cell (hs b' hb j u hj) trivial) (fun h => by cases h) h1 (by omega) k0.size
    rw [List.nil_append, Nat.zero_add] at ho
    have hk1 : Keep (fun b => b < w.heap.size) w W1 := (k0.mono fun _ _ _ => trivial).trans (hk.mono fun b _ h e => by
      rcases hg b e with h1 | h1
      · simp [Value.ownBlock] at h1; omega
      · have := k0.size; omega)
    have hk2 : Keep (fun _ => True) w W1 := hk1.mono fun b hb _ => hb
    rw [← hW0] at hr
    obtain ⟨a', c', rfl⟩ := own_form ho
    clear hl hs hn h1 hg hk hk1 k0 o0 hW0
    have Xhr := Lib.hid hr
    have Xho := Lib.hid ho
    have Xhk2 := Lib.hid hk2
    clear hr ho hk2
    go_enter Try.func60, Try.ntmps60
    go_wp2_with (at_builtin; refine go_app (v := .slice (some ⟨w.heap.size, 0, none⟩) 0 0) (u := .slice (some b) m c) (v' := .slice a' m c') (w' := W1) rfl (.tmp 5) (.tmp 6) 32 rfl rfl rfl Xhr.out ?_)
    go_ret
    exact ⟨_, rfl, Xho.out, Xhk2.out⟩
end Go.Proofs
