/- Layer 4, the program's relation: join (a new tuple's place put into a look). -/
import Derived.Test.YtbaemcmagkmjiaaProg
import Derived.Test.YtbaemcmagkmjiaaRelK
import Derived.Test.YtbaemcmagkmjiaaRelJToHoistB
import Derived.Test.YtbaemcmagkmjiaaRelBToRelD
namespace Go.Proofs
open Go.RowKit Go.Ink
set_option linter.unusedVariables false
set_option linter.unusedSimpArgs false
attribute [local go_sem] Oper.semAt_some

theorem w_abs {F : World → Prop} {w : World} (G : World → Prop) (h : G w) (k : ∀ W, G W → F W) : F w := k w h

set_option maxRecDepth 100000 in
set_option maxHeartbeats 4000000 in
theorem join_any {tag : Tags} {w : World} {n : Nat} {ts : List (List Int)} {c : List Bool} {L M : Nat} {l : List Int} {vl : Value} {m : List (List Int × Value)} (h : LookAt tag w n ts c L l vl M m) (hlt : ∀ b T, tag b = some T → b < w.heap.size) (hn : n ≤ 16) (hts : ts.length ≤ 536870912)
    (v : Value) (t : List Int) (hs : IntsIn w.heap.size w v t) (ht : t.length = n) (hok : okT t) (hll : l.length ≤ 16) :
    Calls Try.prog 42 #[.pointer (some ⟨L, 0, none⟩), v, natV ts.length] w fun e w' => e = .returned (.tuple #[]) ∧
      ∃ tag' m', LookAt tag' w' n (ts ++ [t]) c L l vl M m' ∧ TagStep c tag tag' w w' ∧ Keep (fun b => lookT (tag b) ≠ some c) w w' := by
  obtain ⟨a, cc, rfl, hlt1, hct, het⟩ := id hs
  have hLlt := heap_lt h.box
  have hMlt := h.map.lt
  have d0 := cells_of_block h.box 0 _ rfl
  simp only [Nat.zero_add] at d0
  have hin : ∀ x ∈ l, 0 ≤ x ∧ x < t.length := fun x hx => by rw [ht]; exact rowD_at h.row x hx
  have hli : IntsIn w.heap.size w vl l := own_ints h.list (by omega)
  have hckl : (padK (cutL t l)).length = 16 := padK_len (by rw [cutL_len]; exact hll)
  have hkok : ∃ q, keyOf Try.prog 81 (keyV (cutK t l)) = some q := key_ok hckl (okT_pad (okT_cut hok))
  obtain ⟨k0, k1, k2, k3, k4, k5, k6, k7, k8, k9, k10, k11, k12, k13, k14, k15, hpad⟩ : ∃ k0 k1 k2 k3 k4 k5 k6 k7 k8 k9 k10 k11 k12 k13 k14 k15, cutK t l = [k0, k1, k2, k3, k4, k5, k6, k7, k8, k9, k10, k11, k12, k13, k14, k15] := by
    unfold cutK
    match h : padK (cutL t l), hckl with
    | [k0, k1, k2, k3, k4, k5, k6, k7, k8, k9, k10, k11, k12, k13, k14, k15], _ => exact ⟨k0, k1, k2, k3, k4, k5, k6, k7, k8, k9, k10, k11, k12, k13, k14, k15, rfl⟩
  have hkv : keyV (cutK t l) = .agg #[.int .i64 k0, .int .i64 k1, .int .i64 k2, .int .i64 k3, .int .i64 k4, .int .i64 k5, .int .i64 k6, .int .i64 k7, .int .i64 k8, .int .i64 k9, .int .i64 k10, .int .i64 k11, .int .i64 k12, .int .i64 k13, .int .i64 k14, .int .i64 k15] := by rw [hpad]; rfl
  clear hckl ht hok
  have Xh := Lib.hid h
  have Xhlt := Lib.hid hlt
  have Xhs := Lib.hid hs
  have Xhet := Lib.hid het
  have Xhin := Lib.hid hin
  have Xhli := Lib.hid hli
  have Xhkok := Lib.hid hkok
  have Xhpad := Lib.hid hpad
  have Xhkv := Lib.hid hkv
  have Xhts := Lib.hid hts
  clear h hlt hs het hin hli hkok hpad hkv hts
  go_enter Try.func42, Try.ntmps42
  go_wp2_with fail
  refine (cut_any w _ vl t l Xhs.out Xhli.out hll Xhin.out).mono ?_
  rintro e W1 ⟨rfl, kw1⟩
  obtain ⟨W0, hW0⟩ : ∃ W0, W1.alloc (.cells #[.int .i64 0, .int .i64 0, .int .i64 0, .int .i64 0, .int .i64 0, .int .i64 0, .int .i64 0, .int .i64 0, .int .i64 0, .int .i64 0, .int .i64 0, .int .i64 0, .int .i64 0, .int .i64 0, .int .i64 0, .int .i64 0] 81) = W0 := ⟨_, rfl⟩
  obtain ⟨nb, hnb⟩ : ∃ nb, W1.heap.size = nb := ⟨_, rfl⟩
  have n1 : W0.heap[nb]? = some (.cells #[.int .i64 0, .int .i64 0, .int .i64 0, .int .i64 0, .int .i64 0, .int .i64 0, .int .i64 0, .int .i64 0, .int .i64 0, .int .i64 0, .int .i64 0, .int .i64 0, .int .i64 0, .int .i64 0, .int .i64 0, .int .i64 0] 81 (0, 0)) := by rw [← hW0, ← hnb]; exact new_block _ _
  have kw0 : Keep (fun b => b < w.heap.size) w W0 := by rw [← hW0]; exact kw1.trans (Keep.alloc _ _ _)
  have s0 : nb < W0.heap.size := heap_lt n1
  have hwn : w.heap.size ≤ nb := by rw [← hnb]; exact kw1.size
  have z0 := cells_of_block n1 0 _ rfl
  have f0 := box_free n1 0
  have z1 := cells_of_block n1 1 _ rfl
  have f1 := box_free n1 1
  have z2 := cells_of_block n1 2 _ rfl
  have f2 := box_free n1 2
  have z3 := cells_of_block n1 3 _ rfl
  have f3 := box_free n1 3
  have z4 := cells_of_block n1 4 _ rfl
  have f4 := box_free n1 4
  have z5 := cells_of_block n1 5 _ rfl
  have f5 := box_free n1 5
  have z6 := cells_of_block n1 6 _ rfl
  have f6 := box_free n1 6
  have z7 := cells_of_block n1 7 _ rfl
  have f7 := box_free n1 7
  have z8 := cells_of_block n1 8 _ rfl
  have f8 := box_free n1 8
  have z9 := cells_of_block n1 9 _ rfl
  have f9 := box_free n1 9
  have z10 := cells_of_block n1 10 _ rfl
  have f10 := box_free n1 10
  have z11 := cells_of_block n1 11 _ rfl
  have f11 := box_free n1 11
  have z12 := cells_of_block n1 12 _ rfl
  have f12 := box_free n1 12
  have z13 := cells_of_block n1 13 _ rfl
  have f13 := box_free n1 13
  have z14 := cells_of_block n1 14 _ rfl
  have f14 := box_free n1 14
  have z15 := cells_of_block n1 15 _ rfl
  have f15 := box_free n1 15
  simp only [Nat.zero_add] at z0 z1 z2 z3 z4 z5 z6 z7 z8 z9 z10 z11 z12 z13 z14 z15
  rw [Xhkv.out]
  clear kw1
  have Xn1 := Lib.hid n1
  have Xkw0 := Lib.hid kw0
  clear n1 kw0
  go_wp2_with fail
  refine w_abs (fun W => W.heap[nb]? = some (.cells #[.int .i64 k0, .int .i64 k1, .int .i64 k2, .int .i64 k3, .int .i64 k4, .int .i64 k5, .int .i64 k6, .int .i64 k7, .int .i64 k8, .int .i64 k9, .int .i64 k10, .int .i64 k11, .int .i64 k12, .int .i64 k13, .int .i64 k14, .int .i64 k15] 81 (0, 0)) ∧ Keep (fun k => k < w.heap.size) w W) (w := chain nb [.int .i64 k0, .int .i64 k1, .int .i64 k2, .int .i64 k3, .int .i64 k4, .int .i64 k5, .int .i64 k6, .int .i64 k7, .int .i64 k8, .int .i64 k9, .int .i64 k10, .int .i64 k11, .int .i64 k12, .int .i64 k13, .int .i64 k14, .int .i64 k15] 0 W0) ⟨chain_full [.int .i64 k0, .int .i64 k1, .int .i64 k2, .int .i64 k3, .int .i64 k4, .int .i64 k5, .int .i64 k6, .int .i64 k7, .int .i64 k8, .int .i64 k9, .int .i64 k10, .int .i64 k11, .int .i64 k12, .int .i64 k13, .int .i64 k14, .int .i64 k15] Xn1.out rfl, Xkw0.out.trans ((chain_keep _ _ _ _).mono (fun b _ h => by omega))⟩ ?_
  rintro W2 ⟨hq, kw2⟩
  clear z0 z1 z2 z3 z4 z5 z6 z7 z8 z9 z10 z11 z12 z13 z14 z15 Xn1 Xkw0 s0 hnb hW0
  have r0 := cells_of_block hq 0 _ rfl
  have r1 := cells_of_block hq 1 _ rfl
  have r2 := cells_of_block hq 2 _ rfl
  have r3 := cells_of_block hq 3 _ rfl
  have r4 := cells_of_block hq 4 _ rfl
  have r5 := cells_of_block hq 5 _ rfl
  have r6 := cells_of_block hq 6 _ rfl
  have r7 := cells_of_block hq 7 _ rfl
  have r8 := cells_of_block hq 8 _ rfl
  have r9 := cells_of_block hq 9 _ rfl
  have r10 := cells_of_block hq 10 _ rfl
  have r11 := cells_of_block hq 11 _ rfl
  have r12 := cells_of_block hq 12 _ rfl
  have r13 := cells_of_block hq 13 _ rfl
  have r14 := cells_of_block hq 14 _ rfl
  have r15 := cells_of_block hq 15 _ rfl
  simp only [Nat.zero_add] at r0 r1 r2 r3 r4 r5 r6 r7 r8 r9 r10 r11 r12 r13 r14 r15
  have hLs : lookT (tag L) = some c := by rw [Xh.out.tagL]; rfl
  obtain ⟨Wd, hWd⟩ : ∃ Wd, W2.drew = Wd := ⟨_, rfl⟩
  have kd : Keep (fun k => k < w.heap.size) w Wd := by rw [← hWd]; exact kw2.trans (Keep.drew _ _)
  have hd : LookAt tag Wd n ts c L l vl M m := Xh.out.keep kd (fun b hb => by
    cases hT : tag b with
    | none => rw [hT] at hb; cases hb
    | some T => exact Xhlt.out b T hT) (fun _ _ => rfl) (fun _ _ => rfl)
  have hdl : ∀ b T, tag b = some T → b < Wd.heap.size := fun b T hb => Nat.lt_of_lt_of_le (Xhlt.out b T hb) kd.size
  have hmM : m.length ≤ maxLen := by have := hd.few; have := Xhts.out; simp only [maxLen]; omega
  have hMd := hd.map.lt
  have hnbd : nb < Wd.heap.size := by rw [← hWd]; exact heap_lt hq
  have step : ∀ tag' W4, TagStep c tag tag' Wd W4 → TagStep c tag tag' w W4 := fun tag' W4 hst => ⟨hst.le, fun b hb => hst.old b (Nat.lt_of_lt_of_le hb kd.size), fun b T hb => ⟨(hst.new b T hb).1, fun hwb => by
    rcases Nat.lt_or_ge b Wd.heap.size with hb1 | hb1
    · have hnone : tag b = none := by
        cases hT : tag b with
        | none => rfl
        | some T' => have := Xhlt.out b T' hT; omega
      have := hst.old b hb1 (by rw [hnone]; exact fun e => (by cases e))
      rw [hb, hnone] at this
      cases this
    · exact (hst.new b T hb).2 hb1⟩, hst.ents⟩
  have keepF : ∀ W4, Keep (fun b => lookT (tag b) ≠ some c) Wd W4 → Keep (fun b => lookT (tag b) ≠ some c) w W4 := fun W4 hk => ⟨hk.os.trans kd.os, hk.tape.trans kd.tape, hk.output.trans kd.output, Nat.le_trans kd.size hk.size, fun b hb hC => (hk.block b (Nat.lt_of_lt_of_le hb kd.size) hC).trans (kd.block b hb hb)⟩
  -- the two orders
  obtain ⟨WA1, hWA1⟩ : ∃ WA1, Wd.alloc (.cells #[natV ts.length] 3) = WA1 := ⟨_, rfl⟩
  have kA1 : Keep (fun _ => True) Wd WA1 := by rw [← hWA1]; exact Keep.alloc _ _ _
  have zA1 : WA1.heap.size = Wd.heap.size + 1 := by rw [← hWA1]; simp
  have bA1 : WA1.heap[Wd.heap.size]? = some (.cells #[natV ts.length] 3 (0, 0)) := by rw [← hWA1]; exact new_block _ _
  obtain ⟨vA, stA, WA2, hrA, hvA, hkA, hsA, hstA⟩ := run_entryK (P := Try.prog) Try.underlying90 arrKey.law keyV_inj key_zero (hd.map.keep kA1 trivial) hmM (cutK t l) Xhkok.out
  obtain ⟨vA', WA3, WA4, hrA3, hrA4, hkA3, tagA, hA1, hA2, hA3⟩ := join_tail hd hdl t Xhts.out ((kA1.mono fun _ _ _ => trivial).trans hkA) (hsA.trans zA1) ((hkA.block _ (by omega) (by omega)).trans bA1) vA hvA stA hstA
  rw [Xhkv.out] at hrA
  have fA : ∃ tag' m', LookAt tag' WA4 n (ts ++ [t]) c L l vl M m' ∧ TagStep c tag tag' w WA4 ∧ Keep (fun b => lookT (tag b) ≠ some c) w WA4 := ⟨_, _, hA1, step _ _ hA2, keepF _ hA3⟩
  have e1 : Wd.cell? ⟨L, 1, none⟩ = some (.map (some M)) := by have := cells_of_block hd.box 1 _ rfl; simpa using this
  have hLd := heap_lt hd.box
  have hqd : Wd.heap[nb]? = some (.cells #[.int .i64 k0, .int .i64 k1, .int .i64 k2, .int .i64 k3, .int .i64 k4, .int .i64 k5, .int .i64 k6, .int .i64 k7, .int .i64 k8, .int .i64 k9, .int .i64 k10, .int .i64 k11, .int .i64 k12, .int .i64 k13, .int .i64 k14, .int .i64 k15] 81 (0, 0)) := by rw [← hWd]; exact hq
  have hnt : tag nb = none := by
    cases hT : tag nb with
    | none => rfl
    | some T => have := Xhlt.out nb T hT; omega
  have cellsB : ∀ W : World, Keep (fun b => b ≠ M ∧ ∀ k p, tag b ≠ some (.ent c k p)) Wd W → W.cell? ⟨L, 1, none⟩ = some (.map (some M)) ∧ W.heap[nb]? = some (.cells #[.int .i64 k0, .int .i64 k1, .int .i64 k2, .int .i64 k3, .int .i64 k4, .int .i64 k5, .int .i64 k6, .int .i64 k7, .int .i64 k8, .int .i64 k9, .int .i64 k10, .int .i64 k11, .int .i64 k12, .int .i64 k13, .int .i64 k14, .int .i64 k15] 81 (0, 0)) := fun W hW => ⟨hW.cell e1 ⟨fun e => (by have := hd.tagL; simp only at e; rw [e, hd.tagM] at this; cases this), fun k p e => (by have := hd.tagL; simp only at e; rw [e] at this; cases this)⟩, hW.heap hqd ⟨fun e => by omega, fun k p e => by rw [hnt] at e; cases e⟩⟩
  have sAll : ∀ W : World, Keep (fun b => b ≠ M ∧ ∀ k p, tag b ≠ some (.ent c k p)) Wd W → W.cell? ⟨L, 1, none⟩ = some (.map (some M)) ∧ W.cell? ⟨nb, 0, none⟩ = some (.int .i64 k0) ∧ W.cell? ⟨nb, 1, none⟩ = some (.int .i64 k1) ∧ W.cell? ⟨nb, 2, none⟩ = some (.int .i64 k2) ∧ W.cell? ⟨nb, 3, none⟩ = some (.int .i64 k3) ∧ W.cell? ⟨nb, 4, none⟩ = some (.int .i64 k4) ∧ W.cell? ⟨nb, 5, none⟩ = some (.int .i64 k5) ∧ W.cell? ⟨nb, 6, none⟩ = some (.int .i64 k6) ∧ W.cell? ⟨nb, 7, none⟩ = some (.int .i64 k7) ∧ W.cell? ⟨nb, 8, none⟩ = some (.int .i64 k8) ∧ W.cell? ⟨nb, 9, none⟩ = some (.int .i64 k9) ∧ W.cell? ⟨nb, 10, none⟩ = some (.int .i64 k10) ∧ W.cell? ⟨nb, 11, none⟩ = some (.int .i64 k11) ∧ W.cell? ⟨nb, 12, none⟩ = some (.int .i64 k12) ∧ W.cell? ⟨nb, 13, none⟩ = some (.int .i64 k13) ∧ W.cell? ⟨nb, 14, none⟩ = some (.int .i64 k14) ∧ W.cell? ⟨nb, 15, none⟩ = some (.int .i64 k15) := fun W hW => by
    obtain ⟨q1, q2⟩ := cellsB W hW
    refine ⟨q1, ?_, ?_, ?_, ?_, ?_, ?_, ?_, ?_, ?_, ?_, ?_, ?_, ?_, ?_, ?_, ?_⟩ <;> simp [World.cell?, q2]
  clear kA1 zA1 bA1 hA1 hA2 hA3 hvA hsA hstA step keepF hd hdl hmM kw2 kd hLs r0 r1 r2 r3 r4 r5 r6 r7 r8 r9 r10 r11 r12 r13 r14 r15 e1 hqd cellsB
  have hSA := sAll WA1 (by rw [← hWA1]; exact Keep.alloc _ _ _)
  have hSA2 := sAll WA2 (((by rw [← hWA1]; exact Keep.alloc _ _ _ : Keep (fun b => b ≠ M) Wd WA1).trans hkA).mono fun b _ h => h.1)
  have hSA4 := sAll WA3 hkA3
  have hSA3 := sAll Wd (Keep.refl _ _)
  clear hkA hkA3 sAll hnt
  have XfA := Lib.hid fA
  have Xhq := Lib.hid hq
  have XhSA := Lib.hid hSA
  have XhSA2 := Lib.hid hSA2
  have XhSA3 := Lib.hid hSA3
  have XhSA4 := Lib.hid hSA4
  have XhWA1 := Lib.hid hWA1
  have XhrA3 := Lib.hid hrA3
  have XhrA4 := Lib.hid hrA4
  clear fA hq hSA hSA2 hSA3 hSA4 hWA1 hrA3 hrA4
  subst hWd
  refine region_hoist rfl (fun W => W.cell? ⟨L, 1, none⟩ = some (.map (some M)) ∧ W.cell? ⟨nb, 0, none⟩ = some (.int .i64 k0) ∧ W.cell? ⟨nb, 1, none⟩ = some (.int .i64 k1) ∧ W.cell? ⟨nb, 2, none⟩ = some (.int .i64 k2) ∧ W.cell? ⟨nb, 3, none⟩ = some (.int .i64 k3) ∧ W.cell? ⟨nb, 4, none⟩ = some (.int .i64 k4) ∧ W.cell? ⟨nb, 5, none⟩ = some (.int .i64 k5) ∧ W.cell? ⟨nb, 6, none⟩ = some (.int .i64 k6) ∧ W.cell? ⟨nb, 7, none⟩ = some (.int .i64 k7) ∧ W.cell? ⟨nb, 8, none⟩ = some (.int .i64 k8) ∧ W.cell? ⟨nb, 9, none⟩ = some (.int .i64 k9) ∧ W.cell? ⟨nb, 10, none⟩ = some (.int .i64 k10) ∧ W.cell? ⟨nb, 11, none⟩ = some (.int .i64 k11) ∧ W.cell? ⟨nb, 12, none⟩ = some (.int .i64 k12) ∧ W.cell? ⟨nb, 13, none⟩ = some (.int .i64 k13) ∧ W.cell? ⟨nb, 14, none⟩ = some (.int .i64 k14) ∧ W.cell? ⟨nb, 15, none⟩ = some (.int .i64 k15)) [11] ?_
  refine hoist_take (i := 0) (v := ?_) rfl (by kernel_rfl) (by kernel_rfl) (by kernel_rfl) (by kernel_rfl) (fun _ _ _ h => h) XhSA3.out (Or.inl ⟨by rfl, ?_⟩) ?_
  rotate_left
  · intro Wq hWq
    obtain ⟨x0, x1, x2, x3, x4, x5, x6, x7, x8, x9, x10, x11, x12, x13, x14, x15, x16⟩ := hWq
    go_simp
    try with_reducible rfl
  try simp only [Act.put, List.getElem_toArray, List.getElem_cons_zero, List.getElem_cons_succ, List.setIfInBounds_toArray, List.set_cons_zero, List.set_cons_succ]
  refine hoist_take (i := 1) (v := ?_) rfl (by kernel_rfl) (by kernel_rfl) (by kernel_rfl) (by kernel_rfl) (fun _ _ _ h => h) XhSA3.out (Or.inl ⟨by rfl, ?_⟩) ?_
  rotate_left
  · intro Wq hWq
    obtain ⟨x0, x1, x2, x3, x4, x5, x6, x7, x8, x9, x10, x11, x12, x13, x14, x15, x16⟩ := hWq
    go_simp
    try with_reducible rfl
  try simp only [Act.put, List.getElem_toArray, List.getElem_cons_zero, List.getElem_cons_succ, List.setIfInBounds_toArray, List.set_cons_zero, List.set_cons_succ]
  refine hoist_take (i := 2) (v := ?_) rfl (by kernel_rfl) (by kernel_rfl) (by kernel_rfl) (by kernel_rfl) (fun _ _ _ h => h) XhSA3.out (Or.inl ⟨by rfl, ?_⟩) ?_
  rotate_left
  · intro Wq hWq
    obtain ⟨x0, x1, x2, x3, x4, x5, x6, x7, x8, x9, x10, x11, x12, x13, x14, x15, x16⟩ := hWq
    go_simp
    try with_reducible rfl
  try simp only [Act.put, List.getElem_toArray, List.getElem_cons_zero, List.getElem_cons_succ, List.setIfInBounds_toArray, List.set_cons_zero, List.set_cons_succ]
  refine hoist_take (i := 3) (v := ?_) rfl (by kernel_rfl) (by kernel_rfl) (by kernel_rfl) (by kernel_rfl) (fun _ _ _ h => h) XhSA3.out (Or.inl ⟨by rfl, ?_⟩) ?_
  rotate_left
  · intro Wq hWq
    obtain ⟨x0, x1, x2, x3, x4, x5, x6, x7, x8, x9, x10, x11, x12, x13, x14, x15, x16⟩ := hWq
    go_simp
    try with_reducible rfl
  try simp only [Act.put, List.getElem_toArray, List.getElem_cons_zero, List.getElem_cons_succ, List.setIfInBounds_toArray, List.set_cons_zero, List.set_cons_succ]
  refine hoist_take (i := 4) (v := ?_) rfl (by kernel_rfl) (by kernel_rfl) (by kernel_rfl) (by kernel_rfl) (fun _ _ _ h => h) XhSA3.out (Or.inl ⟨by rfl, ?_⟩) ?_
  rotate_left
  · intro Wq hWq
    obtain ⟨x0, x1, x2, x3, x4, x5, x6, x7, x8, x9, x10, x11, x12, x13, x14, x15, x16⟩ := hWq
    go_simp
    try with_reducible rfl
  try simp only [Act.put, List.getElem_toArray, List.getElem_cons_zero, List.getElem_cons_succ, List.setIfInBounds_toArray, List.set_cons_zero, List.set_cons_succ]
  refine hoist_take (i := 5) (v := ?_) rfl (by kernel_rfl) (by kernel_rfl) (by kernel_rfl) (by kernel_rfl) (fun _ _ _ h => h) XhSA3.out (Or.inl ⟨by rfl, ?_⟩) ?_
  rotate_left
  · intro Wq hWq
    obtain ⟨x0, x1, x2, x3, x4, x5, x6, x7, x8, x9, x10, x11, x12, x13, x14, x15, x16⟩ := hWq
    go_simp
    try with_reducible rfl
  try simp only [Act.put, List.getElem_toArray, List.getElem_cons_zero, List.getElem_cons_succ, List.setIfInBounds_toArray, List.set_cons_zero, List.set_cons_succ]
  refine hoist_one (i := 6) rfl (by kernel_rfl) (fun K hK => ?_)
  have XhK0 := Lib.hid hK
  clear hK
  have hWA1' := XhWA1.out
  go_wp2_with fail
  refine XhK0.out _ _ (fun _ => XhSA.out) ?_
  refine hoist_one (i := 7) rfl (by kernel_rfl) (fun K hK => ?_)
  have XhK1 := Lib.hid hK
  clear hK
  go_wp2_with fail
  refine XhK1.out _ _ (fun _ => XhSA2.out) ?_
  refine hoist_take (i := 8) (v := ?_) rfl (by kernel_rfl) (by kernel_rfl) (by kernel_rfl) (by kernel_rfl) (fun _ _ _ h => h) XhSA2.out (Or.inl ⟨by rfl, ?_⟩) ?_
  rotate_left
  · intro Wq hWq
    obtain ⟨x0, x1, x2, x3, x4, x5, x6, x7, x8, x9, x10, x11, x12, x13, x14, x15, x16⟩ := hWq
    go_simp
    try with_reducible rfl
  try simp only [Act.put, List.getElem_toArray, List.getElem_cons_zero, List.getElem_cons_succ, List.setIfInBounds_toArray, List.set_cons_zero, List.set_cons_succ]
  refine hoist_take (i := 10) (v := ?_) rfl (by kernel_rfl) (by kernel_rfl) (by kernel_rfl) (by kernel_rfl) (fun _ _ _ h => h) XhSA2.out (Or.inl ⟨by rfl, ?_⟩) ?_
  rotate_left
  · intro Wq hWq
    obtain ⟨x0, x1, x2, x3, x4, x5, x6, x7, x8, x9, x10, x11, x12, x13, x14, x15, x16⟩ := hWq
    go_simp
    try with_reducible rfl
  try simp only [Act.put, List.getElem_toArray, List.getElem_cons_zero, List.getElem_cons_succ, List.setIfInBounds_toArray, List.set_cons_zero, List.set_cons_succ]
  refine hoist_one (i := 9) rfl (by kernel_rfl) (fun K hK => ?_)
  have XhK2 := Lib.hid hK
  clear hK
  simp only [List.getElem_toArray, List.getElem_cons_zero, List.getElem_cons_succ, Act.put, List.setIfInBounds_toArray, List.set_cons_zero, List.set_cons_succ]
  refine go_app (v := vA) (u := .slice (some ⟨W2.heap.size, 0, none⟩) 1 1) (v' := vA') (w' := WA3) rfl (.tmp 18) (.tmp 20) 23 rfl rfl rfl XhrA3.out ?_
  go_wp2_with fail
  refine XhK2.out _ _ (fun _ => XhSA4.out) ?_
  refine hoist_one (i := 11) rfl (by kernel_rfl) (fun K hK => ?_)
  have XhK3 := Lib.hid hK
  clear hK
  have hrA4' := XhrA4.out
  go_wp2_with fail
  refine XhK3.out _ _ (fun h => by simp at h) ?_
  refine hoist_done (by kernel_rfl) ?_
  go_wp2_with fail
  refine bodyPost_end (results_none rfl _ _ _) rfl ?_
  exact ⟨rfl, XfA.out⟩
end Go.Proofs

/- Layer 4, the program's relation in memory of its own; New. -/
namespace Go.Proofs
open Go.RowKit Go.Ink
set_option linter.unusedVariables false
set_option linter.unusedSimpArgs false
attribute [local go_sem] Oper.semAt_some

/-- the tuples' places as the map has them -/
def placesM (ts : List (List Int)) : List (List Int × Nat) := ts.zipIdx.map fun p => (padK p.1, p.2)
abbrev ptrV (b : Nat) : Value := .pointer (some ⟨b, 0, none⟩)
abbrev PlaceMap (w : World) (b : Nat) (m : List (List Int × Nat)) : Prop := MapIn Try.prog 81 keyV natV w b m
abbrev LookMap (w : World) (b : Nat) (m : List (List Bool × Nat)) : Prop := MapIn Try.prog 85 colV ptrV w b m

/-- the relation; of the look of columns c the tuples `tsl c` are known -/
structure RelG (tag : Tags) (w : World) (B n : Nat) (ts : List (List Int)) (tsl : List Bool → List (List Int)) (vD : Value) (P K : Nat) (lm : List (List Bool × Nat)) : Prop where
  tagB : tag B = some .box
  box : w.heap[B]? = some (.cells (relCells n vD ts.length P K).toArray 79 (0, 0))
  n16 : n ≤ 16
  nodup : ts.Nodup
  right : ∀ t ∈ ts, rightD n t = true
  ok : ∀ t ∈ ts, okT t
  own : w.ownsRow 0 3 1 vD ts.flatten.length (ts.flatten.map (.int .i64))
  tagD : ∀ b, vD.ownBlock = some b → tag b = some .data
  tagP : tag P = some .pmap
  pmap : PlaceMap w P (placesM ts)
  tagK : tag K = some .kmap
  kmap : LookMap w K lm
  looks : ∀ c L, (c, L) ∈ lm → ∃ l vl M m, LookAt tag w n (tsl c) c L l vl M m
  ents : ∀ b c, lookT (tag b) = some c → ∃ L, (c, L) ∈ lm
  lt : ∀ b T, tag b = some T → b < w.heap.size

abbrev RelOwn (tag : Tags) (w : World) (B n : Nat) (ts : List (List Int)) (vD : Value) (P K : Nat) (lm : List (List Bool × Nat)) : Prop := RelG tag w B n ts (fun _ => ts) vD P K lm

theorem RelG.keep {tag : Tags} {w w' : World} {B n : Nat} {ts : List (List Int)} {tsl : List Bool → List (List Int)} {vD : Value} {P K : Nat} {lm : List (List Bool × Nat)} {C : Nat → Prop} (h : RelG tag w B n ts tsl vD P K lm) (hK : Keep C w w') (hC : ∀ b T, tag b = some T → b < w.heap.size → C b) : RelG tag w' B n ts tsl vD P K lm := by
  have hC2 : ∀ b T, tag b = some T → C b := fun b T hb => hC b T hb (h.lt b T hb)
  refine ⟨h.tagB, hK.heap h.box (hC2 _ _ h.tagB), h.n16, h.nodup, h.right, h.ok, own_kept h.own hK (fun b hb => hC2 _ _ (h.tagD b hb)), h.tagD, h.tagP, h.pmap.keep hK (hC2 _ _ h.tagP), h.tagK, h.kmap.keep hK (hC2 _ _ h.tagK), fun c L hcl => ?_, h.ents, fun b T hb => Nat.lt_of_lt_of_le (h.lt b T hb) hK.size⟩
  obtain ⟨l, vl, M, m, hl⟩ := h.looks c L hcl
  refine ⟨l, vl, M, m, hl.keep hK (fun b hb => ?_) (fun _ _ => rfl) (fun _ _ => rfl)⟩
  cases hT : tag b with
  | none => rw [hT] at hb; cases hb
  | some T => exact hC2 b T hT

theorem RelG.len {tag : Tags} {w : World} {B n : Nat} {ts : List (List Int)} {tsl : List Bool → List (List Int)} {vD : Value} {P K : Nat} {lm : List (List Bool × Nat)} (h : RelG tag w B n ts tsl vD P K lm) : ∀ t ∈ ts, t.length = n := fun t ht => by
  have := h.right t ht
  simp only [rightD, Bool.and_eq_true, decide_eq_true_eq] at this
  exact this.1

set_option maxRecDepth 100000 in
theorem relNew_any (n : Nat) (hn : n ≤ 16) (w : World) : Calls Try.prog 16 #[.int .i64 n] w fun e w' => e = .returned (.tuple #[.pointer (some ⟨w.heap.size + 2, 0, none⟩), .int .i64 0]) ∧ Keep (fun _ => True) w w' ∧
    ∃ tag P K, RelOwn tag w' (w.heap.size + 2) n [] (.slice none 0 0) P K [] ∧ ∀ b T, tag b = some T → w.heap.size ≤ b := by
  have h1 : (0 : Int) ≤ n := by omega
  have h2 : (n : Int) ≤ 16 := by omega
  have h3 : ¬ ((n : Int) < 0) := by omega
  have h4 : ¬ ((16 : Int) < n) := by omega
  have hmm := @run_makeMap Try.prog
  go_enter Try.func16, Try.ntmps16
  go_wp2
  go_ret2
  refine ⟨rfl, ((Keep.alloc _ _ _).trans (Keep.alloc _ _ _)).trans (Keep.alloc _ _ _), fun b => if b = w.heap.size then some .pmap else if b = w.heap.size + 1 then some .kmap else if b = w.heap.size + 2 then some .box else none, ⟨w.heap.size, w.heap.size + 1, ?_⟩, ?_⟩
  · refine ⟨by simp, ?_, hn, List.nodup_nil, fun t ht => (by cases ht), fun t ht => (by cases ht), World.ownsRow_nil _ _ _ _, fun b hb => (by simp [Value.ownBlock] at hb), by simp, ?_, by simp, ?_, fun c L h => (by cases h), fun b c hb => ?_, fun b T hb => ?_⟩
    · simp only [alloc_get, World.size_alloc]
      simp [relCells]
    · exact ((mapIn_new w).keep (Keep.alloc (fun _ => True) _ _) trivial).keep (Keep.alloc (fun _ => True) _ _) trivial
    · have := (mapIn_new (P := Try.prog) (K := 85) (ek := colV) (ev := ptrV) (w.alloc (.map #[] 0))).keep (Keep.alloc (fun _ => True) _ (.cells (relCells n (.slice none 0 0) 0 w.heap.size (w.heap.size + 1)).toArray 79)) trivial
      simpa [relCells] using this
    · split at hb
      · cases hb
      · split at hb
        · cases hb
        · split at hb <;> cases hb
    · simp only [World.size_alloc]
      split at hb
      · omega
      · split at hb
        · omega
        · split at hb
          · omega
          · cases hb
  · intro b T hb
    replace hb : (if b = w.heap.size then some Tag.pmap else if b = w.heap.size + 1 then some Tag.kmap else if b = w.heap.size + 2 then some Tag.box else none) = some T := hb
    split at hb
    · omega
    · split at hb
      · omega
      · split at hb
        · omega
        · cases hb
set_option maxRecDepth 100000 in
theorem relNew_bad (n : Int) (hn : n < 0 ∨ 16 < n) (w : World) : Calls Try.prog 16 #[.int .i64 n] w fun e w' => e = .returned (.tuple #[.pointer none, .int .i64 2]) ∧ w' = w := by
  go_enter Try.func16, Try.ntmps16
  rcases hn with h | h
  · go_wp2
    go_ret2
    exact ⟨rfl, rfl⟩
  · have h3 : ¬ (n < 0) := by omega
    go_wp2
    go_ret2
    exact ⟨rfl, rfl⟩

/-- where a tuple's numbers lie in the row of all -/
theorem flat_at {n : Nat} : ∀ {ts : List (List Int)} (h : ∀ t ∈ ts, t.length = n) {i : Nat} {t : List Int} (hi : ts[i]? = some t) {k : Nat} {x : Int} (hk : t[k]? = some x), ts.flatten[i * n + k]? = some x
  | [], _, i, t, hi, _, _, _ => by simp at hi
  | s :: ts, h, 0, t, hi, k, x, hk => by
    simp at hi
    subst hi
    rw [List.flatten_cons, Nat.zero_mul, Nat.zero_add, List.getElem?_append_left (List.getElem?_eq_some_iff.1 hk).1]
    exact hk
  | s :: ts, h, i + 1, t, hi, k, x, hk => by
    have hs : s.length = n := h s (by simp)
    rw [List.flatten_cons, List.getElem?_append_right (by rw [hs, Nat.succ_mul]; omega), hs]
    have : (i + 1) * n + k - n = i * n + k := by rw [Nat.succ_mul]; omega
    rw [this]
    exact flat_at (fun t ht => h t (by simp [ht])) (by simpa using hi) hk
theorem flat_len {n : Nat} : ∀ {ts : List (List Int)} (h : ∀ t ∈ ts, t.length = n), ts.flatten.length = ts.length * n
  | [], _ => by simp
  | s :: ts, h => by
    rw [List.flatten_cons, List.length_append, flat_len (fun t ht => h t (by simp [ht])), h s (by simp), List.length_cons, Nat.succ_mul]
    omega

set_option maxRecDepth 100000 in
theorem tuple_any {tag : Tags} {w : World} {B n : Nat} {ts : List (List Int)} {vD : Value} {P K : Nat} {lm : List (List Bool × Nat)} (h : RelOwn tag w B n ts vD P K lm) (hl : ts.length ≤ 536870912) (i : Nat) (t : List Int) (hi : ts[i]? = some t) :
    Calls Try.prog 34 #[.pointer (some ⟨B, 0, none⟩), .int .i64 (i : Int)] w fun e w' => ∃ v, e = .returned v ∧ Keep (fun _ => True) w w' ∧ w'.heap.size = w.heap.size ∧ IntsIn w.heap.size w v t ∧ t.length = n := by
  have hlen : t.length = n := h.len t (List.mem_of_getElem? hi)
  have hil := (List.getElem?_eq_some_iff.1 hi).1
  have hn := h.n16
  have hB := heap_lt h.box
  have hfl := flat_len h.len
  have hmul : (i + 1) * n ≤ ts.length * n := Nat.mul_le_mul_right n hil
  have hmul2 : ts.length * n ≤ 536870912 * 16 := Nat.mul_le_mul hl hn
  have hsm : (i + 1) * n = i * n + n := Nat.succ_mul i n
  have c0 := cells_of_block h.box 0 _ rfl
  have c1 := cells_of_block h.box 1 _ rfl
  simp only [Nat.zero_add] at c0 c1
  obtain ⟨ad, lenD, capD, rfl, hlc, hcm⟩ : ∃ ad lenD capD, vD = .slice ad lenD capD ∧ lenD = ts.flatten.length ∧ lenD ≤ capD := by
    rcases h.own.2 with ⟨e1, e2⟩ | ⟨g, cap, cur, e1, e2, e3, e4, e5, _⟩
    · exact ⟨none, 0, 0, e1, e2.symm, Nat.le_refl _⟩
    · exact ⟨_, _, _, e1, rfl, e4⟩
  obtain ⟨lo, hlo⟩ : ∃ lo, i * n = lo := ⟨_, rfl⟩
  have b0 : (0 : Int) ≤ lo := by omega
  have b1 : (lo : Int) ≤ lo + n := by omega
  have b2 : (lo : Int) + n ≤ capD := by omega
  have b3 : (lo : Int) + n ≤ 8589934592 := by omega
  have b4 : (lo : Int) ≤ 8589934592 := by omega
  have b5 : (i : Int) * (n : Int) = lo := by rw [← hlo]; simp
  have b6 : ((i : Int) + 1) * (n : Int) = lo + n := by rw [Int.add_mul, b5]; omega
  have b7 : (i : Int) + 1 ≤ 536870912 := by omega
  have b8 : (0 : Int) ≤ i := by omega
  have b9 : (lo : Int) + n - lo = n := by omega
  have hans : IntsIn w.heap.size w (.slice (if lo + n = lo then ad else ad.map (·.add (lo * 1))) n n) t := by
    refine ⟨_, n, by rw [hlen], by omega, ⟨by omega, by simp only [maxLen]; omega⟩, fun k x hk => ?_⟩
    have hkl := (List.getElem?_eq_some_iff.1 hk).1
    rw [if_neg (by omega)]
    have hf := flat_at h.len hi hk
    have hown := h.own
    rw [← hlc] at hown
    rcases hown.2 with ⟨e1, e2⟩ | ⟨g, cap, cur, e1, e2, e3, e4, e5, _⟩
    · have := (List.getElem?_eq_some_iff.1 hf).1
      omega
    · injection e1 with q1 q2 q3
      subst q1
      have := own_elem hown (lo + k) (.int .i64 x) (by rw [← hlo, List.getElem?_map, hf]; rfl)
      refine ⟨g, lo, by simp [Addr.add]; exact fun e => e.symm, heap_lt e3, ?_⟩
      simpa [IntE] using this
  have hans1 : n = 0 → IntsIn w.heap.size w (.slice ad 0 0) t := fun h0 => by subst h0; simpa using hans
  have hans2 : ¬ n = 0 → IntsIn w.heap.size w (.slice (ad.map (·.add lo)) n n) t := fun h0 => by
    rw [if_neg (by omega), Nat.mul_one] at hans
    exact hans
  clear hi hil hfl hmul hmul2 hsm hlc hans
  have Xh := Lib.hid h
  have Xhans1 := Lib.hid hans1
  have Xhans2 := Lib.hid hans2
  have Xhlen := Lib.hid hlen
  clear h hans1 hans2 hlen
  go_enter Try.func34, Try.ntmps34
  go_wp2_with fail
  go_region
  clear b0 b1 b2 b3 b4 b5 b6 b7 b8 b9 hlo c0 c1
  go_wp2_with fail
  all_goals go_ret
  · exact ⟨_, rfl, Keep.drew _ _, rfl, Xhans1.out (by omega), Xhlen.out⟩
  · exact ⟨_, rfl, Keep.drew _ _, rfl, Xhans2.out (by omega), Xhlen.out⟩
end Go.Proofs
