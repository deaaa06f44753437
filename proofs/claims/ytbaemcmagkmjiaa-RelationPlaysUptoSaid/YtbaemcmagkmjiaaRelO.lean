/- Layer 4, the program's relation: Add. -/
import Derived.Test.YtbaemcmagkmjiaaProg
import Derived.Test.YtbaemcmagkmjiaaRelN
namespace Go.Proofs
open Go.RowKit Go.Ink
set_option linter.unusedVariables false
set_option linter.unusedSimpArgs false
attribute [local go_sem] Oper.semAt_some

theorem MapRange.left_eq {κ ν : Type} {P : Program} {K : TypeId} {ek : κ → Value} {ev : ν → Value} {w : World} {b r cnt : Nat} {m : List (κ × ν)} {left : κ → Bool} (h : MapRange P K ek ev w b r m left cnt) : w.rangeLeft b r = cnt := by
  obtain ⟨es, clock, since, seen, c0, hb, h2, hn, hok, hbc, hbn, hr, hold, hsc, hsk, rfl, hl⟩ := h
  simp [World.rangeLeft, hb, hr]
theorem zero_int : ∀ w : World, (zeroValue 3).run Try.prog w = .ok (.int .i64 0) w := fun w => by kernel_rfl

/-- whose memory is none of the relation's -/
def FreeOf (tag : Tags) (v : Value) : Prop := ∀ a n c, v = .slice (some a) n c → tag a.block = none
theorem ints_free {tag : Tags} {C : Nat → Prop} {m : Nat} {w w' : World} {v : Value} {t : List Int} (h : IntsIn m w v t) (hf : FreeOf tag v) (hK : Keep C w w') (hC : ∀ b, tag b = none → b < m → C b) : IntsIn m w' v t := by
  obtain ⟨a, c, rfl, h1, h2, h3⟩ := h
  refine ⟨a, c, rfl, h1, h2, fun k x hk => ?_⟩
  obtain ⟨b, o, rfl, hb, hx⟩ := h3 k x hk
  exact ⟨b, o, rfl, hb, hK.cell hx (hC b (hf _ _ _ rfl) hb)⟩

set_option maxRecDepth 100000 in
set_option maxHeartbeats 4000000 in
theorem relAdd_any {tag : Tags} {w : World} {B n : Nat} {ts : List (List Int)} {vD : Value} {P K : Nat} {lm : List (List Bool × Nat)} (h : RelOwn tag w B n ts vD P K lm) (hl : ts.length ≤ 134217728) (m : Nat) (v : Value) (t : List Int) (hs : IntsIn m w v t) (hm : m ≤ w.heap.size) (hok : okT t) (hfree : FreeOf tag v) :
    Calls Try.prog 18 #[.pointer (some ⟨B, 0, none⟩), v] w fun e w' => e = .returned (.tuple #[.int .i64 (addD n ts t).1, .bool (addD n ts t).2.1, .int .i64 (addD n ts t).2.2]) ∧
      Keep (fun b => tag b = none) w w' ∧ ∃ tag' vD', RelOwn tag' w' B n (addT n ts t) vD' P K lm ∧ TagLe tag tag' ∧ TagNew tag tag' w := by
  obtain ⟨a, c, rfl, hlt, hct, het⟩ := id hs
  have hB := heap_lt h.box
  have hn16 := h.n16
  have Xh := Lib.hid h
  have Xhs := Lib.hid hs
  have Xhet := Lib.hid het
  have Xhok := Lib.hid hok
  have Xhfree := Lib.hid hfree
  clear h hs het hok hfree
  go_enter Try.func18, Try.ntmps18
  go_wp2_with fail
  refine (made_any Xh.out.box).mono ?_
  rintro e w1 ⟨rfl, hw1⟩
  have hw1 := hw1.symm
  subst hw1
  go_wp2_with fail
  refine (right_any Xh.out.box m _ t Xhs.out hm).mono ?_
  rintro e W1 ⟨rfl, kw1⟩
  cases hrt : rightD n t with
  | false =>
    have hans : addD n ts t = (0, false, 2) := by unfold addD; rw [hrt]; rfl
    have hT : addT n ts t = ts := by unfold addT; rw [hans]; rfl
    have hO := Xh.out.keep kw1 (fun _ _ _ _ => trivial)
    clear hrt
    have Xhans := Lib.hid hans
    have XhT := Lib.hid hT
    have XhO := Lib.hid hO
    have Xkw1 := Lib.hid kw1
    clear hans hT hO kw1
    go_wp2_with fail
    go_ret3
    exact ⟨by rw [Xhans.out]; try rfl, Xkw1.out.mono fun _ _ _ => trivial, tag, vD, by rw [XhT.out]; exact XhO.out, TagLe.refl _, TagNew.refl _ _⟩
  | true =>
    have htl := rightD_len hrt
    have hs1 := ints_stay Xhs.out (m := m) (kw1.mono fun _ _ _ => trivial) (Nat.le_refl _)
    have htl16 : t.length ≤ 16 := by omega
    have hckl : (padK t).length = 16 := padK_len (by omega)
    have hkok : ∃ q, keyOf Try.prog 81 (keyV (padK t)) = some q := key_ok hckl (okT_pad Xhok.out)
    obtain ⟨k0, k1, k2, k3, k4, k5, k6, k7, k8, k9, k10, k11, k12, k13, k14, k15, hpad⟩ : ∃ k0 k1 k2 k3 k4 k5 k6 k7 k8 k9 k10 k11 k12 k13 k14 k15, padK t = [k0, k1, k2, k3, k4, k5, k6, k7, k8, k9, k10, k11, k12, k13, k14, k15] := by
      match h : padK t, hckl with
      | [k0, k1, k2, k3, k4, k5, k6, k7, k8, k9, k10, k11, k12, k13, k14, k15], _ => exact ⟨k0, k1, k2, k3, k4, k5, k6, k7, k8, k9, k10, k11, k12, k13, k14, k15, rfl⟩
    have hkv : keyV (padK t) = .agg #[.int .i64 k0, .int .i64 k1, .int .i64 k2, .int .i64 k3, .int .i64 k4, .int .i64 k5, .int .i64 k6, .int .i64 k7, .int .i64 k8, .int .i64 k9, .int .i64 k10, .int .i64 k11, .int .i64 k12, .int .i64 k13, .int .i64 k14, .int .i64 k15] := by rw [hpad]; rfl
    have z1 := kw1.size
    clear hckl hpad
    have Xkw1 := Lib.hid kw1
    have Xhs1 := Lib.hid hs1
    have Xhkok := Lib.hid hkok
    have Xhkv := Lib.hid hkv
    have Xhrt := Lib.hid hrt
    have Xhtl := Lib.hid htl
    clear kw1 hs1 hkok hkv hrt htl
    go_wp2_with fail
    refine (whole_any m _ t W1 Xhs1.out (by omega) htl16).mono ?_
    rintro e W2 ⟨rfl, kw2⟩
    replace kw2 : Keep (fun b => b < w.heap.size) w W2 := (Xkw1.out.mono fun _ _ _ => trivial).trans (kw2.mono fun b _ h => by omega)
    obtain ⟨W0, hW0⟩ : ∃ W0, W2.alloc (.cells #[.int .i64 0, .int .i64 0, .int .i64 0, .int .i64 0, .int .i64 0, .int .i64 0, .int .i64 0, .int .i64 0, .int .i64 0, .int .i64 0, .int .i64 0, .int .i64 0, .int .i64 0, .int .i64 0, .int .i64 0, .int .i64 0] 81) = W0 := ⟨_, rfl⟩
    obtain ⟨nb, hnb⟩ : ∃ nb, W2.heap.size = nb := ⟨_, rfl⟩
    have n1 : W0.heap[nb]? = some (.cells #[.int .i64 0, .int .i64 0, .int .i64 0, .int .i64 0, .int .i64 0, .int .i64 0, .int .i64 0, .int .i64 0, .int .i64 0, .int .i64 0, .int .i64 0, .int .i64 0, .int .i64 0, .int .i64 0, .int .i64 0, .int .i64 0] 81 (0, 0)) := by rw [← hW0, ← hnb]; exact new_block _ _
    have kw0 : Keep (fun b => b < w.heap.size) w W0 := by rw [← hW0]; exact kw2.trans (Keep.alloc _ _ _)
    have s0 : nb < W0.heap.size := heap_lt n1
    have hwn : w.heap.size ≤ nb := by rw [← hnb]; exact kw2.size
    have z0 := cells_of_block n1 0 _ rfl
    have f0 := box_free n1 0
    have z1 := cells_of_block n1 1 _ rfl
    have f1 := box_free n1 1
    have z2 := cells_of_block n1 2 _ rfl
    have f2 := box_free n1 2
    have z3 := cells_of_block n1 3 _ rfl
    have f3 := box_free n1 3
    have z4 := cells_of_block n1 4 _ rfl
    have f4 := box_free n1 4
    have z5 := cells_of_block n1 5 _ rfl
    have f5 := box_free n1 5
    have z6 := cells_of_block n1 6 _ rfl
    have f6 := box_free n1 6
    have z7 := cells_of_block n1 7 _ rfl
    have f7 := box_free n1 7
    have z8 := cells_of_block n1 8 _ rfl
    have f8 := box_free n1 8
    have z9 := cells_of_block n1 9 _ rfl
    have f9 := box_free n1 9
    have z10 := cells_of_block n1 10 _ rfl
    have f10 := box_free n1 10
    have z11 := cells_of_block n1 11 _ rfl
    have f11 := box_free n1 11
    have z12 := cells_of_block n1 12 _ rfl
    have f12 := box_free n1 12
    have z13 := cells_of_block n1 13 _ rfl
    have f13 := box_free n1 13
    have z14 := cells_of_block n1 14 _ rfl
    have f14 := box_free n1 14
    have z15 := cells_of_block n1 15 _ rfl
    have f15 := box_free n1 15
    simp only [Nat.zero_add] at z0 z1 z2 z3 z4 z5 z6 z7 z8 z9 z10 z11 z12 z13 z14 z15
    rw [Xhkv.out]
    clear kw2
    have Xn1 := Lib.hid n1
    have Xkw0 := Lib.hid kw0
    clear n1 kw0
    go_wp2_with fail
    refine w_abs (fun W => W.heap[nb]? = some (.cells #[.int .i64 k0, .int .i64 k1, .int .i64 k2, .int .i64 k3, .int .i64 k4, .int .i64 k5, .int .i64 k6, .int .i64 k7, .int .i64 k8, .int .i64 k9, .int .i64 k10, .int .i64 k11, .int .i64 k12, .int .i64 k13, .int .i64 k14, .int .i64 k15] 81 (0, 0)) ∧ Keep (fun k => k < w.heap.size) w W) (w := chain nb [.int .i64 k0, .int .i64 k1, .int .i64 k2, .int .i64 k3, .int .i64 k4, .int .i64 k5, .int .i64 k6, .int .i64 k7, .int .i64 k8, .int .i64 k9, .int .i64 k10, .int .i64 k11, .int .i64 k12, .int .i64 k13, .int .i64 k14, .int .i64 k15] 0 W0) ⟨chain_full [.int .i64 k0, .int .i64 k1, .int .i64 k2, .int .i64 k3, .int .i64 k4, .int .i64 k5, .int .i64 k6, .int .i64 k7, .int .i64 k8, .int .i64 k9, .int .i64 k10, .int .i64 k11, .int .i64 k12, .int .i64 k13, .int .i64 k14, .int .i64 k15] Xn1.out rfl, Xkw0.out.trans ((chain_keep _ _ _ _).mono (fun b _ h => by omega))⟩ ?_
    clear z0 z1 z2 z3 z4 z5 z6 z7 z8 z9 z10 z11 z12 z13 z14 z15 f0 f1 f2 f3 f4 f5 f6 f7 f8 f9 f10 f11 f12 f13 f14 f15 Xn1 Xkw0 s0 hnb hW0 Xkw1 Xhs1
    rintro W3 ⟨hq, kw3⟩
    obtain ⟨Wd, hWd⟩ : ∃ Wd, W3.drew = Wd := ⟨_, rfl⟩
    have kwd : Keep (fun k => k < w.heap.size) w Wd := by rw [← hWd]; exact kw3.trans (Keep.drew _ _)
    have hqd : Wd.heap[nb]? = some (.cells #[.int .i64 k0, .int .i64 k1, .int .i64 k2, .int .i64 k3, .int .i64 k4, .int .i64 k5, .int .i64 k6, .int .i64 k7, .int .i64 k8, .int .i64 k9, .int .i64 k10, .int .i64 k11, .int .i64 k12, .int .i64 k13, .int .i64 k14, .int .i64 k15] 81 (0, 0)) := by rw [← hWd]; exact hq
    have hd := Xh.out.keep kwd (fun b T hb hlt => hlt)
    have r0 := cells_of_block hqd 0 _ rfl
    have r1 := cells_of_block hqd 1 _ rfl
    have r2 := cells_of_block hqd 2 _ rfl
    have r3 := cells_of_block hqd 3 _ rfl
    have r4 := cells_of_block hqd 4 _ rfl
    have r5 := cells_of_block hqd 5 _ rfl
    have r6 := cells_of_block hqd 6 _ rfl
    have r7 := cells_of_block hqd 7 _ rfl
    have r8 := cells_of_block hqd 8 _ rfl
    have r9 := cells_of_block hqd 9 _ rfl
    have r10 := cells_of_block hqd 10 _ rfl
    have r11 := cells_of_block hqd 11 _ rfl
    have r12 := cells_of_block hqd 12 _ rfl
    have r13 := cells_of_block hqd 13 _ rfl
    have r14 := cells_of_block hqd 14 _ rfl
    have r15 := cells_of_block hqd 15 _ rfl
    simp only [Nat.zero_add] at r0 r1 r2 r3 r4 r5 r6 r7 r8 r9 r10 r11 r12 r13 r14 r15
    have b2 := cells_of_block hd.box 2 _ rfl
    have b3 := cells_of_block hd.box 3 _ rfl
    simp only [Nat.zero_add] at b2 b3
    have hlk := run_lookK (P := Try.prog) Try.underlying76 arrKey.law keyV_inj zero_int hd.pmap (padK t) Xhkok.out true
    have hnd : ((placesM ts).map (·.1)).Nodup := by
      obtain ⟨_, _, _, _, hnd, _⟩ := hd.pmap
      exact hnd
    rw [place_look hd.len Xhtl.out hnd, Xhkv.out] at hlk
    have hBd : B < Wd.heap.size := heap_lt hd.box
    have hnbd : nb < Wd.heap.size := heap_lt hqd
    clear hnd hq kw3
    subst hWd
    cases hpl : placeD ts t with
    | some i =>
      have hans : addD n ts t = ((i : Int), false, 0) := by unfold addD; rw [Xhrt.out, hpl]; rfl
      have hT : addT n ts t = ts := by unfold addT; rw [hans]; rfl
      rw [hpl] at hlk
      simp only [if_true] at hlk
      clear hpl hqd
      have Xhans := Lib.hid hans
      have XhT := Lib.hid hT
      have Xhd := Lib.hid hd
      have Xkwd := Lib.hid kwd
      clear hans hT hd kwd
      go_region
      clear r0 r1 r2 r3 r4 r5 r6 r7 r8 r9 r10 r11 r12 r13 r14 r15 b3 hlk
      go_wp2_with fail
      go_ret3
      exact ⟨by rw [Xhans.out]; try rfl, Xkwd.out.mono fun b hb _ => hb, tag, vD, by rw [XhT.out]; exact Xhd.out, TagLe.refl _, TagNew.refl _ _⟩
    | none =>
      rw [hpl] at hlk
      simp only [if_true] at hlk
      have Xhpl := Lib.hid hpl
      have Xhqd := Lib.hid hqd
      have Xhd := Lib.hid hd
      have Xkwd := Lib.hid kwd
      clear hpl hqd hd kwd
      go_region
      generalize W3.drew = Wd at *
      clear hlk b2 b3 r0 r1 r2 r3 r4 r5 r6 r7 r8 r9 r10 r11 r12 r13 r14 r15
      obtain ⟨We, hWe⟩ : ∃ We, Wd.drew = We := ⟨_, rfl⟩
      have kwe : Keep (fun k => k < w.heap.size) w We := by rw [← hWe]; exact Xkwd.out.trans (Keep.drew _ _)
      have hde := Xh.out.keep kwe (fun b T hb hlt => hlt)
      have hqe : We.heap[nb]? = some (.cells #[.int .i64 k0, .int .i64 k1, .int .i64 k2, .int .i64 k3, .int .i64 k4, .int .i64 k5, .int .i64 k6, .int .i64 k7, .int .i64 k8, .int .i64 k9, .int .i64 k10, .int .i64 k11, .int .i64 k12, .int .i64 k13, .int .i64 k14, .int .i64 k15] 81 (0, 0)) := by rw [← hWe]; exact Xhqd.out
      have b2 : Wd.cell? ⟨B, 2, none⟩ = some (.int .i64 (ts.length : Int)) := by have := cells_of_block Xhd.out.box 2 _ rfl; simpa using this
      have b3 := cells_of_block hde.box 3 _ rfl
      have r0 := cells_of_block hqe 0 _ rfl
      have r1 := cells_of_block hqe 1 _ rfl
      have r2 := cells_of_block hqe 2 _ rfl
      have r3 := cells_of_block hqe 3 _ rfl
      have r4 := cells_of_block hqe 4 _ rfl
      have r5 := cells_of_block hqe 5 _ rfl
      have r6 := cells_of_block hqe 6 _ rfl
      have r7 := cells_of_block hqe 7 _ rfl
      have r8 := cells_of_block hqe 8 _ rfl
      have r9 := cells_of_block hqe 9 _ rfl
      have r10 := cells_of_block hqe 10 _ rfl
      have r11 := cells_of_block hqe 11 _ rfl
      have r12 := cells_of_block hqe 12 _ rfl
      have r13 := cells_of_block hqe 13 _ rfl
      have r14 := cells_of_block hqe 14 _ rfl
      have r15 := cells_of_block hqe 15 _ rfl
      simp only [Nat.zero_add] at b3 r0 r1 r2 r3 r4 r5 r6 r7 r8 r9 r10 r11 r12 r13 r14 r15
      have hBe : B < We.heap.size := heap_lt hde.box
      have hnbe : nb < We.heap.size := heap_lt hqe
      obtain ⟨W5, hup, hm5, kw5, hz5⟩ := run_setK (P := Try.prog) Try.underlying76 arrKey.law keyV_inj hde.pmap (padK t) Xhkok.out ts.length
      rw [Xhkv.out] at hup
      have hPB : B ≠ P := fun e => by have := hde.tagB; rw [e, hde.tagP] at this; cases this
      have hb5 := kw5.heap hde.box hPB
      have hown5 := own_kept hde.own kw5 (fun b hb e => by have := hde.tagD b hb; rw [e, hde.tagP] at this; cases this)
      have kf5 : Keep (fun b => tag b = none) w W5 := ⟨kw5.os.trans kwe.os, kw5.tape.trans kwe.tape, kw5.output.trans kwe.output, Nat.le_trans kwe.size kw5.size, fun b hb hC => (kw5.block b (Nat.lt_of_lt_of_le hb kwe.size) (fun e => by rw [e, Xh.out.tagP] at hC; cases hC)).trans (kwe.block b hb hb)⟩
      have hs5 := ints_free Xhs.out Xhfree.out kf5 (fun b hb _ => hb)
      have hcl := slice_cells (sz := 1) ic (fun _ => rfl) (by omega) (E := IntE) (fun b o x h j u hj => by
        have hj0 : j = 0 := by have := (List.getElem?_eq_some_iff.1 hj).1; simp [ic] at this; exact this
        subst hj0
        simp [ic] at hj
        subst hj
        exact h) hs5 rfl
      have hfl := flat_len hde.len
      have hfl2 : ts.flatten.length ≤ 134217728 * 16 := by rw [hfl]; exact Nat.mul_le_mul hl hn16
      obtain ⟨vD', W6, hr6, ho6, hg6, kw6⟩ := appA (P := Try.prog) el_int 23 hown5 a t.length c (t.flatMap ic) (flatMap_len _ 1 (fun _ => rfl) _) hcl.1 hcl.2 (flat_one _ (by simp [ic, Value.oneCell']) _) (by omega) (Nat.zero_le _)
      rw [ic_map] at ho6
      obtain ⟨aD', lD', cD', rfl⟩ : ∃ aD' lD' cD', vD' = .slice aD' lD' cD' := by
        obtain ⟨a1, c1, e⟩ := own_form ho6
        exact ⟨_, _, _, e⟩
      have hBv : Value.ownBlock (.slice aD' lD' cD') ≠ some B := fun e => by
        rcases hg6 B e with h1 | h1
        · have := hde.tagD B h1; rw [hde.tagB] at this; cases this
        · have := heap_lt hb5; omega
      have hb6 := kw6.heap hb5 hBv
      obtain ⟨W7, hW7⟩ : ∃ W7, W6.setCell ⟨B, 1, none⟩ (.slice aD' lD' cD') = W7 := ⟨_, rfl⟩
      have hb7 : W7.heap[B]? = some (.cells (([.int .i64 (n : Int), (.slice aD' lD' cD'), .int .i64 (ts.length : Int), .map (some P), .map (some K)] : List Value)).toArray 79 (0, 0)) := by rw [← hW7]; exact set_at 1 (.slice aD' lD' cD') hb6
      obtain ⟨W8, hW8⟩ : ∃ W8, W7.setCell ⟨B, 2, none⟩ (.int .i64 ((ts.length : Int) + 1)) = W8 := ⟨_, rfl⟩
      have hb8 : W8.heap[B]? = some (.cells (relCells n (.slice aD' lD' cD') (ts.length + 1) P K).toArray 79 (0, 0)) := by rw [← hW8]; exact set_at 2 (.int .i64 ((ts.length : Int) + 1)) hb7
      have kw8 : Keep (fun b => b ≠ B) W6 W8 := by rw [← hW8, ← hW7]; exact (Keep.setCell _ _ _ (by simp)).trans (Keep.setCell _ _ _ (by simp))
      obtain ⟨tag8, hG8, hle8, hnew8, kf8, hsame8⟩ := add_mid Xh.out Xhrt.out Xhok.out Xhpl.out kwe hm5 kw5 ho6 hg6 kw6 hb8 kw8
      have c5 : W5.cell? ⟨B, 1, none⟩ = some vD := by have := cells_of_block hb5 1 _ rfl; simpa using this
      have c6 : W6.cell? ⟨B, 1, none⟩ = some vD := by have := cells_of_block hb6 1 _ rfl; simpa using this
      have f6 := box_free hb6 1
      have c7 : W7.cell? ⟨B, 2, none⟩ = some (.int .i64 (ts.length : Int)) := by have := cells_of_block hb7 2 _ rfl; simpa using this
      have f7 := box_free hb7 2
      have c8 : W8.cell? ⟨B, 4, none⟩ = some (.map (some K)) := by have := cells_of_block hb8 4 _ rfl; simpa using this
      have hB5 := heap_lt hb5
      have hB6 := heap_lt hb6
      have hB7 := heap_lt hb7
      have hB8 := heap_lt hb8
      have hl1 : (ts.length : Int) + 1 ≤ 536870912 := by omega
      have hans : addD n ts t = ((ts.length : Int), true, 0) := by unfold addD; rw [Xhrt.out, Xhpl.out]; rfl
      have hT : addT n ts t = ts ++ [t] := by unfold addT; rw [hans]; rfl
      have hw8 : w.heap.size ≤ W8.heap.size := kf8.size
      subst hWe
      clear kwe hde hqe hm5 kw5 hown5 kf5 hs5 hcl hfl hfl2 ho6 hg6 kw6 hb5 hb6 hb7 hb8 kw8 hPB hBv hz5 hsame8
      have Xhr6 := Lib.hid hr6
      have XhG8 := Lib.hid hG8
      have Xhnew8 := Lib.hid hnew8
      have Xhle8 := Lib.hid hle8
      have Xkf8 := Lib.hid kf8
      have Xhans := Lib.hid hans
      have XhT := Lib.hid hT
      clear hr6 hG8 hnew8 hle8 kf8 hans hT
      go_wp2_with fail
      go_region
      clear r0 r1 r2 r3 r4 r5 r6 r7 r8 r9 r10 r11 r12 r13 r14 r15 b3 b2
      have hkm8 := XhG8.out.kmap
      have Xhkm8 := Lib.hid hkm8
      clear hkm8
      clear hw1 z1 hBd hnbd hwn hl1
      go_wp2_with (first
        | (at_builtin; refine go_app (v := vD) (u := .slice a t.length c) (v' := (.slice aD' lD' cD')) (w' := W6) rfl (.tmp 47) (.tmp 48) 23 rfl rfl rfl Xhr6.out ?_)
        | (at_range; refine list_range rfl _ 77 rfl Try.underlying77 rfl Xhkm8.out ?_; intro w0 hrg0 kw0 hz0))
      go_frame
      have hz8 : w0.heap.size = W8.heap.size + 1 := hz0
      obtain ⟨rb, hrb⟩ : ∃ rb, W8.heap.size = rb := ⟨_, rfl⟩
      rw [hrb] at hrg0
      rw [hrb]
      have hwrb : w.heap.size ≤ rb := by omega
      have kf0 : Keep (fun b => tag b = none) w w0 := Xkf8.out.trans (kw0.mono fun _ _ _ => trivial)
      have hG0 : RelG tag8 w0 B n (ts ++ [t]) (fun c => if (fun _ : List Bool => true) c then ts else ts ++ [t]) (.slice aD' lD' cD') P K lm := (XhG8.out.keep kw0 (fun _ _ _ _ => trivial)).to (fun _ _ _ => rfl)
      have hrb8 : tag8 rb = none := by
        cases hT8 : tag8 rb with
        | none => rfl
        | some T => have := XhG8.out.lt rb T hT8; omega
      clear c5 c6 f6 c7 f7 c8 hB5 hB6 hB7 hB8 hW7 hW8 hup Xhkm8 hz0 hz8 hw8 hBe hnbe
      have Xhrg0 := Lib.hid hrg0
      have Xkf0 := Lib.hid kf0
      have XhG0 := Lib.hid hG0
      have Xhrb8 := Lib.hid hrb8
      have Xhrb := Lib.hid hrb
      have Xkw0 := Lib.hid kw0
      clear hrg0 kf0 hG0 hrb8 hrb kw0
      go_loopw [12] (fun _ wr => ∃ left cnt tag', MapRange Try.prog 85 colV ptrV wr K rb lm left cnt ∧ RelG tag' wr B n (ts ++ [t]) (fun c => if left c then ts else ts ++ [t]) (.slice aD' lD' cD') P K lm ∧ TagLe tag tag' ∧ TagNew tag tag' w ∧ Keep (fun b => tag b = none ∧ b < w.heap.size) w wr ∧ tag' rb = none)
        (fun _ wr => wr.rangeLeft K rb)
      case atStart => exact ⟨_, _, tag8, Xhrg0.out, XhG0.out, Xhle8.out, Xhnew8.out, Xkf0.out.mono (fun b _ h => h.1), Xhrb8.out⟩
      case round =>
        obtain ⟨left, cnt, tag', hrg, hG, hle, hnew, hkf, hrbt⟩ := hrel
        have hrl := MapRange.left_eq hrg
        have XhG := Lib.hid hG
        have Xhle := Lib.hid hle
        have Xhnew := Lib.hid hnew
        have Xhkf := Lib.hid hkf
        have Xhrbt := Lib.hid hrbt
        have Xhrg := Lib.hid hrg
        have Xhrl := Lib.hid hrl
        clear hG hle hnew hkf hrbt hrg hrl
        go_wp2_with (at_next; refine list_next rfl _ rfl rfl Xhrg.out ?_ ?_)
        · intro hc0 hl0
          have hG' : RelOwn tag' wr B n (ts ++ [t]) (.slice aD' lD' cD') P K lm := XhG.out.to (fun c L hcl => by rw [hl0 _ _ hcl]; rfl)
          have Xhl0 := Lib.hid hl0
          have XhG' := Lib.hid hG'
          clear hl0 hG'
          go_wp2_with fail
          go_ret3
          exact ⟨by rw [Xhans.out]; try rfl, Xhkf.out.mono (fun b hb h => ⟨h, hb⟩), tag', _, by rw [XhT.out]; exact XhG'.out, Xhle.out, Xhnew.out⟩
        · intro cm L w1 cnt1 hcl hlc hrg1 hlt1 hk1 hz1 hen
          have hG1 := XhG.out.keep hk1 (fun b T hb _ e => by subst e; have := Xhrbt.out; rw [hb] at this; cases this)
          obtain ⟨l, vl, M, mm, hLA⟩ := hG1.looks cm L hcl
          have hLA1 : LookAt tag' w1 n ts cm L l vl M mm := by simpa [hlc] using hLA
          have hkf1 : Keep (fun b => tag b = none ∧ b < w.heap.size) w w1 := Xhkf.out.trans (hk1.mono fun b _ h => by have := h.2; omega)
          have hs1 : IntsIn w1.heap.size w1 (.slice a t.length c) t := ints_wider (ints_free Xhs.out Xhfree.out hkf1 (fun b hb hbm => ⟨hb, by omega⟩)) (by have := hkf1.size; omega)
          have hll : l.length ≤ 16 := by have := rowD_len hLA1.row; omega
          have hrbl := hrg1.lt
          clear hLA
          have Xhcl := Lib.hid hcl
          have Xhlc := Lib.hid hlc
          have Xhrg1 := Lib.hid hrg1
          have Xhk1 := Lib.hid hk1
          have XhG1 := Lib.hid hG1
          have XhLA1 := Lib.hid hLA1
          have Xhkf1 := Lib.hid hkf1
          have Xhs1 := Lib.hid hs1
          clear hcl hlc hrg1 hk1 hG1 hLA1 hkf1 hs1
          go_wp2_with fail
          refine (join_any XhLA1.out XhG1.out.lt hn16 (by omega) _ t Xhs1.out Xhtl.out Xhok.out hll).mono ?_
          rintro e w2 ⟨rfl, tag'', m', hLA2, hst, hk2⟩
          have hG2 := add_look (tsl' := fun x => if (left x && !decide (x = cm)) = true then ts else ts ++ [t]) XhG1.out Xhcl.out (by simp) (fun c' hc' => by simp [hc']) hLA2 hst hk2
          have hrg2 := Xhrg1.out.keep hk2 (by rw [XhG1.out.tagK]; exact fun e => (by cases e)) (by rw [Xhrbt.out]; exact fun e => (by cases e))
          have hrl2 := MapRange.left_eq hrg2
          have hle2 := Xhle.out.trans hst.le
          have hnew2 := Xhnew.out.trans hst.newT Xhkf1.out.size
          have hkf2 : Keep (fun b => tag b = none ∧ b < w.heap.size) w w2 := Xhkf1.out.trans (hk2.mono fun b _ h => by
            cases hT : tag' b with
            | none => exact fun e => (by cases e)
            | some T =>
              rcases Xhnew.out b T hT with ⟨T', h1⟩ | h1
              · rw [h.1] at h1; cases h1
              · have := h.2; omega)
          have hrb2 : tag'' rb = none := (hst.old rb hrbl (by rw [Xhrbt.out]; exact fun e => (by cases e))).trans Xhrbt.out
          clear hLA2 hst hk2
          have XhG2 := Lib.hid hG2
          have Xhrg2 := Lib.hid hrg2
          have Xhrl2 := Lib.hid hrl2
          have Xhle2 := Lib.hid hle2
          have Xhnew2 := Lib.hid hnew2
          have Xhkf2 := Lib.hid hkf2
          have Xhrb2 := Lib.hid hrb2
          clear hG2 hrg2 hrl2 hle2 hnew2 hkf2 hrb2
          go_wp2_with fail
          go_roundw
          case rel => exact ⟨_, _, tag'', Xhrg2.out, XhG2.out, Xhle2.out, Xhnew2.out, Xhkf2.out, Xhrb2.out⟩
          case measure => rw [Xhrl2.out, Xhrl.out]; exact hlt1
end Go.Proofs
