/- Layer 4, the program's relation: join (a new tuple's place put into a look). -/
import Derived.Test.YtbaemcmagkmjiaaProg
import Derived.Test.YtbaemcmagkmjiaaRelK
import Derived.Test.YtbaemcmagkmjiaaHoistB
namespace Go.Proofs
open Go.RowKit Go.Ink
set_option linter.unusedVariables false
set_option linter.unusedSimpArgs false
attribute [local go_sem] Oper.semAt_some

theorem w_abs {F : World → Prop} {w : World} (G : World → Prop) (h : G w) (k : ∀ W, G W → F W) : F w := k w h

set_option maxRecDepth 100000 in
set_option maxHeartbeats 4000000 in
theorem join_any {tag : Tags} {w : World} {n : Nat} {ts : List (List Int)} {c : List Bool} {L M : Nat} {l : List Int} {vl : Value} {m : List (List Int × Value)} (h : LookAt tag w n ts c L l vl M m) (hlt : ∀ b T, tag b = some T → b < w.heap.size) (hn : n ≤ 16) (hts : ts.length ≤ 536870912)
    (v : Value) (t : List Int) (hs : IntsIn w.heap.size w v t) (ht : t.length = n) (hok : okT t) (hll : l.length ≤ 16) :
    Calls Try.prog 42 #[.pointer (some ⟨L, 0, none⟩), v, natV ts.length] w fun e w' => e = .returned (.tuple #[]) ∧
      ∃ tag' m', LookAt tag' w' n (ts ++ [t]) c L l vl M m' ∧ TagStep c tag tag' w w' ∧ Keep (fun b => lookT (tag b) ≠ some c) w w' := by
  obtain ⟨a, cc, rfl, hlt1, hct, het⟩ := id hs
  have hLlt := heap_lt h.box
  have hMlt := h.map.lt
  have d0 := cells_of_block h.box 0 _ rfl
  simp only [Nat.zero_add] at d0
  have hin : ∀ x ∈ l, 0 ≤ x ∧ x < t.length := fun x hx => by rw [ht]; exact rowD_at h.row x hx
  have hli : IntsIn w.heap.size w vl l := own_ints h.list (by omega)
  have hckl : (padK (cutL t l)).length = 16 := padK_len (by rw [cutL_len]; exact hll)
  have hkok : ∃ q, keyOf Try.prog 81 (keyV (cutK t l)) = some q := key_ok hckl (okT_pad (okT_cut hok))
  obtain ⟨k0, k1, k2, k3, k4, k5, k6, k7, k8, k9, k10, k11, k12, k13, k14, k15, hpad⟩ : ∃ k0 k1 k2 k3 k4 k5 k6 k7 k8 k9 k10 k11 k12 k13 k14 k15, cutK t l = [k0, k1, k2, k3, k4, k5, k6, k7, k8, k9, k10, k11, k12, k13, k14, k15] := by
    unfold cutK
    match h : padK (cutL t l), hckl with
    | [k0, k1, k2, k3, k4, k5, k6, k7, k8, k9, k10, k11, k12, k13, k14, k15], _ => exact ⟨k0, k1, k2, k3, k4, k5, k6, k7, k8, k9, k10, k11, k12, k13, k14, k15, rfl⟩
  have hkv : keyV (cutK t l) = .agg #[.int .i64 k0, .int .i64 k1, .int .i64 k2, .int .i64 k3, .int .i64 k4, .int .i64 k5, .int .i64 k6, .int .i64 k7, .int .i64 k8, .int .i64 k9, .int .i64 k10, .int .i64 k11, .int .i64 k12, .int .i64 k13, .int .i64 k14, .int .i64 k15] := by rw [hpad]; rfl
  clear hckl ht hok
  have Xh := Lib.hid h
  have Xhlt := Lib.hid hlt
  have Xhs := Lib.hid hs
  have Xhet := Lib.hid het
  have Xhin := Lib.hid hin
  have Xhli := Lib.hid hli
  have Xhkok := Lib.hid hkok
  have Xhpad := Lib.hid hpad
  have Xhkv := Lib.hid hkv
  have Xhts := Lib.hid hts
  clear h hlt hs het hin hli hkok hpad hkv hts
  go_enter Try.func42, Try.ntmps42
  go_wp2_with fail
  refine (cut_any w _ vl t l Xhs.out Xhli.out hll Xhin.out).mono ?_
  rintro e W1 ⟨rfl, kw1⟩
  obtain ⟨W0, hW0⟩ : ∃ W0, W1.alloc (.cells #[.int .i64 0, .int .i64 0, .int .i64 0, .int .i64 0, .int .i64 0, .int .i64 0, .int .i64 0, .int .i64 0, .int .i64 0, .int .i64 0, .int .i64 0, .int .i64 0, .int .i64 0, .int .i64 0, .int .i64 0, .int .i64 0] 81) = W0 := ⟨_, rfl⟩
  obtain ⟨nb, hnb⟩ : ∃ nb, W1.heap.size = nb := ⟨_, rfl⟩
  have n1 : W0.heap[nb]? = some (.cells #[.int .i64 0, .int .i64 0, .int .i64 0, .int .i64 0, .int .i64 0, .int .i64 0, .int .i64 0, .int .i64 0, .int .i64 0, .int .i64 0, .int .i64 0, .int .i64 0, .int .i64 0, .int .i64 0, .int .i64 0, .int .i64 0] 81 (0, 0)) := by rw [← hW0, ← hnb]; exact new_block _ _
  have kw0 : Keep (fun b => b < w.heap.size) w W0 := by rw [← hW0]; exact kw1.trans (Keep.alloc _ _ _)
  have s0 : nb < W0.heap.size := heap_lt n1
  have hwn : w.heap.size ≤ nb := by rw [← hnb]; exact kw1.size
  have z0 := cells_of_block n1 0 _ rfl
  have f0 := box_free n1 0
  have z1 := cells_of_block n1 1 _ rfl
  have f1 := box_free n1 1
  have z2 := cells_of_block n1 2 _ rfl
  have f2 := box_free n1 2
  have z3 := cells_of_block n1 3 _ rfl
  have f3 := box_free n1 3
  have z4 := cells_of_block n1 4 _ rfl
  have f4 := box_free n1 4
  have z5 := cells_of_block n1 5 _ rfl
  have f5 := box_free n1 5
  have z6 := cells_of_block n1 6 _ rfl
  have f6 := box_free n1 6
  have z7 := cells_of_block n1 7 _ rfl
  have f7 := box_free n1 7
  have z8 := cells_of_block n1 8 _ rfl
  have f8 := box_free n1 8
  have z9 := cells_of_block n1 9 _ rfl
  have f9 := box_free n1 9
  have z10 := cells_of_block n1 10 _ rfl
  have f10 := box_free n1 10
  have z11 := cells_of_block n1 11 _ rfl
  have f11 := box_free n1 11
  have z12 := cells_of_block n1 12 _ rfl
  have f12 := box_free n1 12
  have z13 := cells_of_block n1 13 _ rfl
  have f13 := box_free n1 13
  have z14 := cells_of_block n1 14 _ rfl
  have f14 := box_free n1 14
  have z15 := cells_of_block n1 15 _ rfl
  have f15 := box_free n1 15
  simp only [Nat.zero_add] at z0 z1 z2 z3 z4 z5 z6 z7 z8 z9 z10 z11 z12 z13 z14 z15
  rw [Xhkv.out]
  clear kw1
  have Xn1 := Lib.hid n1
  have Xkw0 := Lib.hid kw0
  clear n1 kw0
  go_wp2_with fail
  refine w_abs (fun W => W.heap[nb]? = some (.cells #[.int .i64 k0, .int .i64 k1, .int .i64 k2, .int .i64 k3, .int .i64 k4, .int .i64 k5, .int .i64 k6, .int .i64 k7, .int .i64 k8, .int .i64 k9, .int .i64 k10, .int .i64 k11, .int .i64 k12, .int .i64 k13, .int .i64 k14, .int .i64 k15] 81 (0, 0)) ∧ Keep (fun k => k < w.heap.size) w W) (w := chain nb [.int .i64 k0, .int .i64 k1, .int .i64 k2, .int .i64 k3, .int .i64 k4, .int .i64 k5, .int .i64 k6, .int .i64 k7, .int .i64 k8, .int .i64 k9, .int .i64 k10, .int .i64 k11, .int .i64 k12, .int .i64 k13, .int .i64 k14, .int .i64 k15] 0 W0) ⟨chain_full [.int .i64 k0, .int .i64 k1, .int .i64 k2, .int .i64 k3, .int .i64 k4, .int .i64 k5, .int .i64 k6, .int .i64 k7, .int .i64 k8, .int .i64 k9, .int .i64 k10, .int .i64 k11, .int .i64 k12, .int .i64 k13, .int .i64 k14, .int .i64 k15] Xn1.out rfl, Xkw0.out.trans ((chain_keep _ _ _ _).mono (fun b _ h => by omega))⟩ ?_
  rintro W2 ⟨hq, kw2⟩
  clear z0 z1 z2 z3 z4 z5 z6 z7 z8 z9 z10 z11 z12 z13 z14 z15 Xn1 Xkw0 s0 hnb hW0
  have r0 := cells_of_block hq 0 _ rfl
  have r1 := cells_of_block hq 1 _ rfl
  have r2 := cells_of_block hq 2 _ rfl
  have r3 := cells_of_block hq 3 _ rfl
  have r4 := cells_of_block hq 4 _ rfl
  have r5 := cells_of_block hq 5 _ rfl
  have r6 := cells_of_block hq 6 _ rfl
  have r7 := cells_of_block hq 7 _ rfl
  have r8 := cells_of_block hq 8 _ rfl
  have r9 := cells_of_block hq 9 _ rfl
  have r10 := cells_of_block hq 10 _ rfl
  have r11 := cells_of_block hq 11 _ rfl
  have r12 := cells_of_block hq 12 _ rfl
  have r13 := cells_of_block hq 13 _ rfl
  have r14 := cells_of_block hq 14 _ rfl
  have r15 := cells_of_block hq 15 _ rfl
  simp only [Nat.zero_add] at r0 r1 r2 r3 r4 r5 r6 r7 r8 r9 r10 r11 r12 r13 r14 r15
  have hLs : lookT (tag L) = some c := by rw [Xh.out.tagL]; rfl
  obtain ⟨Wd, hWd⟩ : ∃ Wd, W2.drew = Wd := ⟨_, rfl⟩
  have kd : Keep (fun k => k < w.heap.size) w Wd := by rw [← hWd]; exact kw2.trans (Keep.drew _ _)
  have hd : LookAt tag Wd n ts c L l vl M m := Xh.out.keep kd (fun b hb => by
    cases hT : tag b with
    | none => rw [hT] at hb; cases hb
    | some T => exact Xhlt.out b T hT) (fun _ _ => rfl) (fun _ _ => rfl)
  have hdl : ∀ b T, tag b = some T → b < Wd.heap.size := fun b T hb => Nat.lt_of_lt_of_le (Xhlt.out b T hb) kd.size
  have hmM : m.length ≤ maxLen := by have := hd.few; have := Xhts.out; simp only [maxLen]; omega
  have hMd := hd.map.lt
  have hnbd : nb < Wd.heap.size := by rw [← hWd]; exact heap_lt hq
  have step : ∀ tag' W4, TagStep c tag tag' Wd W4 → TagStep c tag tag' w W4 := fun tag' W4 hst => ⟨hst.le, fun b hb => hst.old b (Nat.lt_of_lt_of_le hb kd.size), fun b T hb => ⟨(hst.new b T hb).1, fun hwb => by
    rcases Nat.lt_or_ge b Wd.heap.size with hb1 | hb1
    · have hnone : tag b = none := by
        cases hT : tag b with
        | none => rfl
        | some T' => have := Xhlt.out b T' hT; omega
      have := hst.old b hb1 (by rw [hnone]; exact fun e => (by cases e))
      rw [hb, hnone] at this
      cases this
    · exact (hst.new b T hb).2 hb1⟩, hst.ents⟩
  have keepF : ∀ W4, Keep (fun b => lookT (tag b) ≠ some c) Wd W4 → Keep (fun b => lookT (tag b) ≠ some c) w W4 := fun W4 hk => ⟨hk.os.trans kd.os, hk.tape.trans kd.tape, hk.output.trans kd.output, Nat.le_trans kd.size hk.size, fun b hb hC => (hk.block b (Nat.lt_of_lt_of_le hb kd.size) hC).trans (kd.block b hb hb)⟩
  -- the two orders
  obtain ⟨WA1, hWA1⟩ : ∃ WA1, Wd.alloc (.cells #[natV ts.length] 3) = WA1 := ⟨_, rfl⟩
  have kA1 : Keep (fun _ => True) Wd WA1 := by rw [← hWA1]; exact Keep.alloc _ _ _
  have zA1 : WA1.heap.size = Wd.heap.size + 1 := by rw [← hWA1]; simp
  have bA1 : WA1.heap[Wd.heap.size]? = some (.cells #[natV ts.length] 3 (0, 0)) := by rw [← hWA1]; exact new_block _ _
  obtain ⟨vA, stA, WA2, hrA, hvA, hkA, hsA, hstA⟩ := run_entryK (P := Try.prog) Try.underlying90 arrKey.law keyV_inj key_zero (hd.map.keep kA1 trivial) hmM (cutK t l) Xhkok.out
  obtain ⟨vA', WA3, WA4, hrA3, hrA4, hkA3, tagA, hA1, hA2, hA3⟩ := join_tail hd hdl t Xhts.out ((kA1.mono fun _ _ _ => trivial).trans hkA) (hsA.trans zA1) ((hkA.block _ (by omega) (by omega)).trans bA1) vA hvA stA hstA
  rw [Xhkv.out] at hrA
  have fA : ∃ tag' m', LookAt tag' WA4 n (ts ++ [t]) c L l vl M m' ∧ TagStep c tag tag' w WA4 ∧ Keep (fun b => lookT (tag b) ≠ some c) w WA4 := ⟨_, _, hA1, step _ _ hA2, keepF _ hA3⟩
  have e1 : Wd.cell? ⟨L, 1, none⟩ = some (.map (some M)) := by have := cells_of_block hd.box 1 _ rfl; simpa using this
  have hLd := heap_lt hd.box
  have hqd : Wd.heap[nb]? = some (.cells #[.int .i64 k0, .int .i64 k1, .int .i64 k2, .int .i64 k3, .int .i64 k4, .int .i64 k5, .int .i64 k6, .int .i64 k7, .int .i64 k8, .int .i64 k9, .int .i64 k10, .int .i64 k11, .int .i64 k12, .int .i64 k13, .int .i64 k14, .int .i64 k15] 81 (0, 0)) := by rw [← hWd]; exact hq
  have hnt : tag nb = none := by
    cases hT : tag nb with
    | none => rfl
    | some T => have := Xhlt.out nb T hT; omega
  have cellsB : ∀ W : World, Keep (fun b => b ≠ M ∧ ∀ k p, tag b ≠ some (.ent c k p)) Wd W → W.cell? ⟨L, 1, none⟩ = some (.map (some M)) ∧ W.heap[nb]? = some (.cells #[.int .i64 k0, .int .i64 k1, .int .i64 k2, .int .i64 k3, .int .i64 k4, .int .i64 k5, .int .i64 k6, .int .i64 k7, .int .i64 k8, .int .i64 k9, .int .i64 k10, .int .i64 k11, .int .i64 k12, .int .i64 k13, .int .i64 k14, .int .i64 k15] 81 (0, 0)) := fun W hW => ⟨hW.cell e1 ⟨fun e => (by have := hd.tagL; simp only at e; rw [e, hd.tagM] at this; cases this), fun k p e => (by have := hd.tagL; simp only at e; rw [e] at this; cases this)⟩, hW.heap hqd ⟨fun e => by omega, fun k p e => by rw [hnt] at e; cases e⟩⟩
  have sAll : ∀ W : World, Keep (fun b => b ≠ M ∧ ∀ k p, tag b ≠ some (.ent c k p)) Wd W → W.cell? ⟨L, 1, none⟩ = some (.map (some M)) ∧ W.cell? ⟨nb, 0, none⟩ = some (.int .i64 k0) ∧ W.cell? ⟨nb, 1, none⟩ = some (.int .i64 k1) ∧ W.cell? ⟨nb, 2, none⟩ = some (.int .i64 k2) ∧ W.cell? ⟨nb, 3, none⟩ = some (.int .i64 k3) ∧ W.cell? ⟨nb, 4, none⟩ = some (.int .i64 k4) ∧ W.cell? ⟨nb, 5, none⟩ = some (.int .i64 k5) ∧ W.cell? ⟨nb, 6, none⟩ = some (.int .i64 k6) ∧ W.cell? ⟨nb, 7, none⟩ = some (.int .i64 k7) ∧ W.cell? ⟨nb, 8, none⟩ = some (.int .i64 k8) ∧ W.cell? ⟨nb, 9, none⟩ = some (.int .i64 k9) ∧ W.cell? ⟨nb, 10, none⟩ = some (.int .i64 k10) ∧ W.cell? ⟨nb, 11, none⟩ = some (.int .i64 k11) ∧ W.cell? ⟨nb, 12, none⟩ = some (.int .i64 k12) ∧ W.cell? ⟨nb, 13, none⟩ = some (.int .i64 k13) ∧ W.cell? ⟨nb, 14, none⟩ = some (.int .i64 k14) ∧ W.cell? ⟨nb, 15, none⟩ = some (.int .i64 k15) := fun W hW => by
    obtain ⟨q1, q2⟩ := cellsB W hW
    refine ⟨q1, ?_, ?_, ?_, ?_, ?_, ?_, ?_, ?_, ?_, ?_, ?_, ?_, ?_, ?_, ?_, ?_⟩ <;> simp [World.cell?, q2]
  clear kA1 zA1 bA1 hA1 hA2 hA3 hvA hsA hstA step keepF hd hdl hmM kw2 kd hLs r0 r1 r2 r3 r4 r5 r6 r7 r8 r9 r10 r11 r12 r13 r14 r15 e1 hqd cellsB
  have hSA := sAll WA1 (by rw [← hWA1]; exact Keep.alloc _ _ _)
  have hSA2 := sAll WA2 (((by rw [← hWA1]; exact Keep.alloc _ _ _ : Keep (fun b => b ≠ M) Wd WA1).trans hkA).mono fun b _ h => h.1)
  have hSA4 := sAll WA3 hkA3
  have hSA3 := sAll Wd (Keep.refl _ _)
  clear hkA hkA3 sAll hnt
  have XfA := Lib.hid fA
  have Xhq := Lib.hid hq
  have XhSA := Lib.hid hSA
  have XhSA2 := Lib.hid hSA2
  have XhSA3 := Lib.hid hSA3
  have XhSA4 := Lib.hid hSA4
  have XhWA1 := Lib.hid hWA1
  have XhrA3 := Lib.hid hrA3
  have XhrA4 := Lib.hid hrA4
  clear fA hq hSA hSA2 hSA3 hSA4 hWA1 hrA3 hrA4
  subst hWd
  refine region_hoist rfl (fun W => W.cell? ⟨L, 1, none⟩ = some (.map (some M)) ∧ W.cell? ⟨nb, 0, none⟩ = some (.int .i64 k0) ∧ W.cell? ⟨nb, 1, none⟩ = some (.int .i64 k1) ∧ W.cell? ⟨nb, 2, none⟩ = some (.int .i64 k2) ∧ W.cell? ⟨nb, 3, none⟩ = some (.int .i64 k3) ∧ W.cell? ⟨nb, 4, none⟩ = some (.int .i64 k4) ∧ W.cell? ⟨nb, 5, none⟩ = some (.int .i64 k5) ∧ W.cell? ⟨nb, 6, none⟩ = some (.int .i64 k6) ∧ W.cell? ⟨nb, 7, none⟩ = some (.int .i64 k7) ∧ W.cell? ⟨nb, 8, none⟩ = some (.int .i64 k8) ∧ W.cell? ⟨nb, 9, none⟩ = some (.int .i64 k9) ∧ W.cell? ⟨nb, 10, none⟩ = some (.int .i64 k10) ∧ W.cell? ⟨nb, 11, none⟩ = some (.int .i64 k11) ∧ W.cell? ⟨nb, 12, none⟩ = some (.int .i64 k12) ∧ W.cell? ⟨nb, 13, none⟩ = some (.int .i64 k13) ∧ W.cell? ⟨nb, 14, none⟩ = some (.int .i64 k14) ∧ W.cell? ⟨nb, 15, none⟩ = some (.int .i64 k15)) [11] ?_
  refine hoist_take (i := 0) (v := ?_) rfl (by kernel_rfl) (by kernel_rfl) (by kernel_rfl) (by kernel_rfl) (fun _ _ _ h => h) XhSA3.out (Or.inl ⟨by rfl, ?_⟩) ?_
  rotate_left
  · intro Wq hWq
    obtain ⟨x0, x1, x2, x3, x4, x5, x6, x7, x8, x9, x10, x11, x12, x13, x14, x15, x16⟩ := hWq
    go_simp
    try with_reducible rfl
  try simp only [Act.put, List.getElem_toArray, List.getElem_cons_zero, List.getElem_cons_succ, List.setIfInBounds_toArray, List.set_cons_zero, List.set_cons_succ]
  refine hoist_take (i := 1) (v := ?_) rfl (by kernel_rfl) (by kernel_rfl) (by kernel_rfl) (by kernel_rfl) (fun _ _ _ h => h) XhSA3.out (Or.inl ⟨by rfl, ?_⟩) ?_
  rotate_left
  · intro Wq hWq
    obtain ⟨x0, x1, x2, x3, x4, x5, x6, x7, x8, x9, x10, x11, x12, x13, x14, x15, x16⟩ := hWq
    go_simp
    try with_reducible rfl
  try simp only [Act.put, List.getElem_toArray, List.getElem_cons_zero, List.getElem_cons_succ, List.setIfInBounds_toArray, List.set_cons_zero, List.set_cons_succ]
  refine hoist_take (i := 2) (v := ?_) rfl (by kernel_rfl) (by kernel_rfl) (by kernel_rfl) (by kernel_rfl) (fun _ _ _ h => h) XhSA3.out (Or.inl ⟨by rfl, ?_⟩) ?_
  rotate_left
  · intro Wq hWq
    obtain ⟨x0, x1, x2, x3, x4, x5, x6, x7, x8, x9, x10, x11, x12, x13, x14, x15, x16⟩ := hWq
    go_simp
    try with_reducible rfl
  try simp only [Act.put, List.getElem_toArray, List.getElem_cons_zero, List.getElem_cons_succ, List.setIfInBounds_toArray, List.set_cons_zero, List.set_cons_succ]
  refine hoist_take (i := 3) (v := ?_) rfl (by kernel_rfl) (by kernel_rfl) (by kernel_rfl) (by kernel_rfl) (fun _ _ _ h => h) XhSA3.out (Or.inl ⟨by rfl, ?_⟩) ?_
  rotate_left
  · intro Wq hWq
    obtain ⟨x0, x1, x2, x3, x4, x5, x6, x7, x8, x9, x10, x11, x12, x13, x14, x15, x16⟩ := hWq
    go_simp
    try with_reducible rfl
  try simp only [Act.put, List.getElem_toArray, List.getElem_cons_zero, List.getElem_cons_succ, List.setIfInBounds_toArray, List.set_cons_zero, List.set_cons_succ]
  refine hoist_take (i := 4) (v := ?_) rfl (by kernel_rfl) (by kernel_rfl) (by kernel_rfl) (by kernel_rfl) (fun _ _ _ h => h) XhSA3.out (Or.inl ⟨by rfl, ?_⟩) ?_
  rotate_left
  · intro Wq hWq
    obtain ⟨x0, x1, x2, x3, x4, x5, x6, x7, x8, x9, x10, x11, x12, x13, x14, x15, x16⟩ := hWq
    go_simp
    try with_reducible rfl
  try simp only [Act.put, List.getElem_toArray, List.getElem_cons_zero, List.getElem_cons_succ, List.setIfInBounds_toArray, List.set_cons_zero, List.set_cons_succ]
  refine hoist_take (i := 5) (v := ?_) rfl (by kernel_rfl) (by kernel_rfl) (by kernel_rfl) (by kernel_rfl) (fun _ _ _ h => h) XhSA3.out (Or.inl ⟨by rfl, ?_⟩) ?_
  rotate_left
  · intro Wq hWq
    obtain ⟨x0, x1, x2, x3, x4, x5, x6, x7, x8, x9, x10, x11, x12, x13, x14, x15, x16⟩ := hWq
    go_simp
    try with_reducible rfl
  try simp only [Act.put, List.getElem_toArray, List.getElem_cons_zero, List.getElem_cons_succ, List.setIfInBounds_toArray, List.set_cons_zero, List.set_cons_succ]
  refine hoist_one (i := 6) rfl (by kernel_rfl) (fun K hK => ?_)
  have XhK0 := Lib.hid hK
  clear hK
  have hWA1' := XhWA1.out
  go_wp2_with fail
  refine XhK0.out _ _ (fun _ => XhSA.out) ?_
  refine hoist_one (i := 7) rfl (by kernel_rfl) (fun K hK => ?_)
  have XhK1 := Lib.hid hK
  clear hK
  go_wp2_with fail
  refine XhK1.out _ _ (fun _ => XhSA2.out) ?_
  refine hoist_take (i := 8) (v := ?_) rfl (by kernel_rfl) (by kernel_rfl) (by kernel_rfl) (by kernel_rfl) (fun _ _ _ h => h) XhSA2.out (Or.inl ⟨by rfl, ?_⟩) ?_
  rotate_left
  · intro Wq hWq
    obtain ⟨x0, x1, x2, x3, x4, x5, x6, x7, x8, x9, x10, x11, x12, x13, x14, x15, x16⟩ := hWq
    go_simp
    try with_reducible rfl
  try simp only [Act.put, List.getElem_toArray, List.getElem_cons_zero, List.getElem_cons_succ, List.setIfInBounds_toArray, List.set_cons_zero, List.set_cons_succ]
  refine hoist_take (i := 10) (v := ?_) rfl (by kernel_rfl) (by kernel_rfl) (by kernel_rfl) (by kernel_rfl) (fun _ _ _ h => h) XhSA2.out (Or.inl ⟨by rfl, ?_⟩) ?_
  rotate_left
  · intro Wq hWq
    obtain ⟨x0, x1, x2, x3, x4, x5, x6, x7, x8, x9, x10, x11, x12, x13, x14, x15, x16⟩ := hWq
    go_simp
    try with_reducible rfl
  try simp only [Act.put, List.getElem_toArray, List.getElem_cons_zero, List.getElem_cons_succ, List.setIfInBounds_toArray, List.set_cons_zero, List.set_cons_succ]
  refine hoist_one (i := 9) rfl (by kernel_rfl) (fun K hK => ?_)
  have XhK2 := Lib.hid hK
  clear hK
  simp only [List.getElem_toArray, List.getElem_cons_zero, List.getElem_cons_succ, Act.put, List.setIfInBounds_toArray, List.set_cons_zero, List.set_cons_succ]
  refine go_app (v := vA) (u := .slice (some ⟨W2.heap.size, 0, none⟩) 1 1) (v' := vA') (w' := WA3) rfl (.tmp 18) (.tmp 20) 23 rfl rfl rfl XhrA3.out ?_
  go_wp2_with fail
  refine XhK2.out _ _ (fun _ => XhSA4.out) ?_
  refine hoist_one (i := 11) rfl (by kernel_rfl) (fun K hK => ?_)
  have XhK3 := Lib.hid hK
  clear hK
  have hrA4' := XhrA4.out
  go_wp2_with fail
  refine XhK3.out _ _ (fun h => by simp at h) ?_
  refine hoist_done (by kernel_rfl) ?_
  go_wp2_with fail
  refine bodyPost_end (results_none rfl _ _ _) rfl ?_
  exact ⟨rfl, XfA.out⟩
end Go.Proofs
