/- Layer 4, the program's relation: Count. -/
import Derived.Test.YtbaemcmagkmjiaaProg
import Derived.Test.YtbaemcmagkmjiaaRelU
namespace Go.Proofs
open Go.RowKit Go.Ink
set_option linter.unusedVariables false
set_option linter.unusedSimpArgs false
attribute [local go_sem] Oper.semAt_some

/-- the relation has stayed, as to its tuples, from w on -/
structure RelSame (s0 : RelS) (w : World) (s : RelS) (X : World) : Prop where
  keep : Keep (fun b => s0.tag b = none ∧ b < w.heap.size) w X
  same : s.ts = s0.ts
  le : TagLe s0.tag s.tag
  new : TagNew s0.tag s.tag w
  sub : ∀ p, p ∈ s0.lm → p ∈ s.lm
theorem RelSame.refl (s : RelS) (w : World) : RelSame s w s w := ⟨Keep.refl _ _, rfl, TagLe.refl _, TagNew.refl _ _, fun _ h => h⟩
theorem RelSame.it {B n P K : Nat} {s0 s s' : RelS} {w X Y : World} (h : RelSame s0 w s X) (g : RelIt B n P K s X s' Y) : RelSame s0 w s' Y := by
  have hf : ∀ b, s0.tag b = none → b < w.heap.size → s.tag b = none := fun b h1 h2 => by
    cases hT : s.tag b with
    | none => rfl
    | some T =>
      rcases h.new b T hT with ⟨T', h3⟩ | h3
      · rw [h1] at h3; cases h3
      · omega
  exact ⟨h.keep.trans (g.keep.mono fun b _ hb => hf b hb.1 hb.2), g.same.trans h.same, h.le.trans g.le, h.new.trans g.new h.keep.size, fun p hp => g.sub p (h.sub p hp)⟩
theorem RelSame.keepOn {s0 s : RelS} {w X Y : World} {C : Nat → Prop} (h : RelSame s0 w s X) (hK : Keep C X Y) (hC : ∀ b, b < w.heap.size → s0.tag b = none → C b) : RelSame s0 w s Y :=
  ⟨h.keep.trans (hK.mono fun b _ hb => hC b hb.2 hb.1), h.same, h.le, h.new, h.sub⟩
theorem RelSame.trans {s0 s s' : RelS} {w X Y : World} (h : RelSame s0 w s X) (g : RelSame s X s' Y) : RelSame s0 w s' Y := by
  have hf : ∀ b, s0.tag b = none → b < w.heap.size → s.tag b = none := fun b h1 h2 => by
    cases hT : s.tag b with
    | none => rfl
    | some T =>
      rcases h.new b T hT with ⟨T', h3⟩ | h3
      · rw [h1] at h3; cases h3
      · omega
  exact ⟨h.keep.trans (g.keep.mono fun b hb hc => ⟨hf b hc.1 hc.2, hb⟩), g.same.trans h.same, h.le.trans g.le, h.new.trans g.new h.keep.size, fun p hp => g.sub p (h.sub p hp)⟩
theorem RelIt.toSame {B n P K : Nat} {s s' : RelS} {X Y : World} (h : RelIt B n P K s X s' Y) : RelSame s X s' Y := (RelSame.refl s X).it h

def countD (n : Nat) (ts : List (List Int)) (cols key : List Int) (lo hi : Int) : Int × Int :=
  if (rowD n cols && decide (key.length = cols.length)) = true then (((matchD n ts cols key lo hi).length : Int), 0) else (0, 2)

set_option maxRecDepth 100000 in
set_option maxHeartbeats 2000000 in
theorem relCount_any {B n P KM : Nat} {s0 : RelS} {w : World} (hinv : RelInv B n P KM s0 w) (m : Nat) (vc vk : Value) (cols key : List Int) (lo hi : Int) (hs : IntsIn m w vc cols) (hsk : IntsIn m w vk key) (hm : m ≤ w.heap.size) (hok : okT key) (hfc : FreeOf s0.tag vc) (hfk : FreeOf s0.tag vk) :
    Calls Try.prog 23 #[.pointer (some ⟨B, 0, none⟩), vc, vk, .int .i64 lo, .int .i64 hi] w fun e w' => e = .returned (.tuple #[.int .i64 (countD n s0.ts cols key lo hi).1, .int .i64 (countD n s0.ts cols key lo hi).2]) ∧
      ∃ s', RelInv B n P KM s' w' ∧ RelSame s0 w s' w' := by
  refine calls_of Try.func23 rfl ?_
  simp only [Try.ntmps23, List.size_toArray, List.length_cons, List.length_nil, Nat.reduceAdd, Nat.reduceSub, Array.replicate_succ, Array.replicate_zero, List.push_toArray, List.append_toArray, List.nil_append, List.cons_append]
  obtain ⟨ac, cc, rfl, hlt, hct, het⟩ := id hs
  obtain ⟨ak, ck, rfl, hltk, hctk, hetk⟩ := id hsk
  have hfew := hinv.few
  have hfd := found_any hinv.own (by omega) m _ _ cols key hs hsk hm hok hfk
  have Xhinv := Lib.hid hinv
  have Xhs := Lib.hid hs
  have Xhet := Lib.hid het
  have Xhsk := Lib.hid hsk
  have Xhetk := Lib.hid hetk
  have Xhok := Lib.hid hok
  have Xhfc := Lib.hid hfc
  have Xhfk := Lib.hid hfk
  have Xhfd := Lib.hid hfd
  clear hinv hs het hsk hetk hok hfc hfk hfd
  gi_wp2
  refine ⟨trivial, rfl, (callsIn_wide.2 (made_any Xhinv.out.own.box)).mono ?_⟩
  rintro e w1 ⟨rfl, hw1⟩
  have hw1 := hw1.symm
  subst hw1
  gi_wp2
  refine ⟨trivial, rfl, (callsIn_wide.2 Xhfd.out).mono ?_⟩
  rintro e W1 ⟨v, tag1, lm1, rfl, k1, hG1, hle1, hnew1, hsub1, hF, hnil⟩
  obtain ⟨s1, hs1⟩ : ∃ s1 : RelS, s1 = ⟨tag1, s0.ts, s0.vD, lm1⟩ := ⟨_, rfl⟩
  have hinv1 : RelInv B n P KM s1 W1 := by rw [hs1]; exact ⟨hG1, hfew⟩
  have hist : RelIt B n P KM s0 w s1 W1 := by rw [hs1] at hinv1 ⊢; exact ⟨k1, rfl, hle1, hnew1, hsub1, hinv1⟩
  have hsame1 := hist.toSame
  have hts1 : s1.ts = s0.ts := by rw [hs1]
  have kf1 := hsame1.keep
  have hs1c := ints_free Xhs.out Xhfc.out kf1 (fun b hb hbm => ⟨hb, by omega⟩)
  have hs1k := ints_free Xhsk.out Xhfk.out kf1 (fun b hb hbm => ⟨hb, by omega⟩)
  have hz1 := kf1.size
  have hcnt : countD n s0.ts cols key lo hi = if (rowD n cols && decide (key.length = cols.length)) = true then (((matchD n s0.ts cols key lo hi).length : Int), 0) else (0, 2) := rfl
  clear hs1 hG1 hle1 hnew1 hsub1 hF hnil k1 hist kf1
  obtain ⟨good, hgood⟩ : ∃ good, (rowD n cols && decide (key.length = cols.length)) = good := ⟨_, rfl⟩
  rw [hgood] at hcnt
  rw [hgood]
  have Xhinv1 := Lib.hid hinv1
  have Xhsame1 := Lib.hid hsame1
  have Xhts1 := Lib.hid hts1
  have Xhs1c := Lib.hid hs1c
  have Xhs1k := Lib.hid hs1k
  have Xhcnt := Lib.hid hcnt
  have Xhgood := Lib.hid hgood
  clear hinv1 hsame1 hts1 hs1c hs1k hcnt hgood
  cases good with
  | false =>
    gi_wp2
    refine leaves_nil (results_tmp2 rfl _ _ _) ⟨?_, s1, Xhinv1.out, Xhsame1.out⟩
    rw [Xhcnt.out]; rfl
  | true =>
    gi_wp2
    obtain ⟨nb, hnb⟩ : ∃ nb, W1.heap.size = nb := ⟨_, rfl⟩
    obtain ⟨W2, hW2⟩ : ∃ W2, W1.alloc (.cells #[.int .i64 0] 3) = W2 := ⟨_, rfl⟩
    have k2 : Keep (fun _ => True) W1 W2 := by rw [← hW2]; exact Keep.alloc _ _ _
    have z2 : W2.heap.size = nb + 1 := by rw [← hW2, ← hnb]; simp
    have b2 : BoxAt W2 nb 3 (.int .i64 0) := by rw [← hW2, ← hnb]; exact new_block _ _
    have hmt := relMatch_any W2 B m _ _ cols key lo hi (ints_stay Xhs1c.out (m := m) (k2.mono fun _ _ _ => trivial) (Nat.le_refl _)) (ints_stay Xhs1k.out (m := m) (k2.mono fun _ _ _ => trivial) (Nat.le_refl _)) (by omega)
    rw [hnb, hW2]
    refine ⟨trivial, rfl, (callsIn_wide.2 hmt).mono ?_⟩
    rintro e W3 ⟨bR, bL, bK, bT, bF, vl, vk', rfl, k3, hV3⟩
    have k13 : Keep (fun _ => True) W1 W3 := k2.trans k3
    have hinv3 := Xhinv1.out.keep (k13.mono fun _ _ _ => trivial)
    have hsame3 := Xhsame1.out.keepOn k13 (fun _ _ _ => trivial)
    have b3 := b2.keep k3 trivial
    have z3 := k3.size
    have hnt : s1.tag nb = none := by
      cases hT : s1.tag nb with
      | none => rfl
      | some T => have := Xhinv1.out.own.lt nb T hT; omega
    have hfr3 : ∀ b, W2.heap.size ≤ b → s1.tag b = none := fun b hb => by
      cases hT : s1.tag b with
      | none => rfl
      | some T => have := Xhinv1.out.own.lt b T hT; omega
    have hN1 : (matchD n s1.ts cols key lo hi).length = (matchD n s0.ts cols key lo hi).length := by rw [Xhts1.out]
    have hml := matchD_len n s1.ts cols key lo hi
    have hfew1 := Xhinv1.out.few
    have hz13 := k13.size
    have hwnb : w.heap.size ≤ nb := by omega
    clear hmt k2 k13 b2 hW2 hnb
    have XhV3 := Lib.hid hV3
    have Xhinv3 := Lib.hid hinv3
    have Xhsame3 := Lib.hid hsame3
    have Xb3 := Lib.hid b3
    have Xhnt := Lib.hid hnt
    have Xhfr3 := Lib.hid hfr3
    have XhN1 := Lib.hid hN1
    have Xk3 := Lib.hid k3
    clear hV3 hinv3 hsame3 b3 hnt hfr3 hN1 k3
    gi_wp2
    refine range_outerG (relSys B n P KM) s1 (gf := 32) (lb := #[.pointer (some ⟨bR, 0, none⟩), .pointer (some ⟨bL, 0, none⟩), .pointer (some ⟨bK, 0, none⟩), .pointer (some ⟨bT, 0, none⟩), .pointer (some ⟨bF, 0, none⟩)]) rfl (enters Try.func32 (by kernel_rfl) rfl)
      (relMatch_iter B n P KM W2.heap.size W3.heap.size bR bL bK bT bF vl vk' lo hi cols key Xhok.out hlt hltk) (fun b hb => Xhfr3.out b hb.1)
      (fun γ0 k γ n X args h => by obtain ⟨i, t, _, _, v, rfl, _⟩ := h; rfl) Xhinv3.out (fun b hb => Xhfr3.out b (by omega)) XhV3.out (fun X Y hV hK => hV.keep hK (fun b h1 h2 => h2))
      (fun k s X => BoxAt X nb 3 (.int .i64 (k : Int)) ∧ s.tag nb = none ∧ RelSame s0 w s X) (fun c k s X => False) ?hI ?hIx ?hIs ?hIxs ?h0 ?round ?done ?stop
    case hI =>
      rintro k s X Y ⟨h1, h2, h3⟩ hK
      exact ⟨h1.keep hK (.inl (by omega)), h2, h3.keepOn hK (fun b hb _ => .inl (by omega))⟩
    case hIx => rintro c k s X Y h; exact h.elim
    case hIs =>
      rintro k s X s' Y ⟨h1, h2, h3⟩ hs
      exact ⟨h1.keep ((relSys B n P KM).ifree hs) h2, (relSys B n P KM).inew hs nb h1.lt h2, h3.it hs⟩
    case hIxs => rintro c k s X s' Y h; exact h.elim
    case h0 => exact ⟨Xb3.out, Xhnt.out, Xhsame3.out⟩
    case stop => rintro D c k s W _ _ _ _ _ h; exact h.elim
    case round =>
      rintro l k s X0 X args hBl hlX hfl hk ⟨h1, h2, h3⟩ hs hinvX hVX hsz hA
      obtain ⟨i, t, hi1, hi2, v', rfl, hv1, hv2⟩ := hA
      have hX : BoxAt X nb 3 (.int .i64 (k : Int)) ∧ s.tag nb = none ∧ RelSame s0 w s X := ⟨h1.keep ((relSys B n P KM).ifree hs) h2, (relSys B n P KM).inew hs nb h1.lt h2, h3.it hs⟩
      clear h1 h2 h3 hi1 hi2 hv1
      have Xhs := Lib.hid hs
      have XhinvX := Lib.hid hinvX
      have XhVX := Lib.hid hVX
      have XhX := Lib.hid hX
      have Xhfl := Lib.hid hfl
      clear hs hinvX hVX hX hfl
      gi_wp2
      refine ⟨Keep.refl _ _, fun Y hY hYs hYl => ?_⟩
      obtain ⟨h1, h2, h3⟩ := XhX.out
      have hXz : X0.heap.size ≤ X.heap.size := ((relSys B n P KM).ifree Xhs.out).size
      have hbY := h1.keep hY (by omega)
      have cY := hbY.cell
      have cfY := box_free hbY 0
      have lY := hbY.lt
      have hkn : (k : Int) + 1 ≤ 67108864 := by
        have : k < (matchD n s1.ts cols key lo hi).length := hk
        omega
      have hk0 : (0 : Int) ≤ k := by omega
      have hb' := set_box (.int .i64 ((k : Int) + 1)) hbY
      have kZ : Keep (fun b => b ≠ nb) Y (Y.setCell ⟨nb, 0, none⟩ (.int .i64 ((k : Int) + 1))) := Keep.setCell _ _ _ (by simp)
      have hf : bodyEndG (relSys B n P KM) W3.heap.size l X.heap.size (MatchV W2.heap.size W3.heap.size bR bL bK bT bF B vl vk' lo hi cols key) s Y (Y.setCell ⟨nb, 0, none⟩ (.int .i64 ((k : Int) + 1))) (fun s' => BoxAt (Y.setCell ⟨nb, 0, none⟩ (.int .i64 ((k : Int) + 1))) nb 3 (.int .i64 ((k + 1 : Nat) : Int)) ∧ s'.tag nb = none ∧ RelSame s0 w s' (Y.setCell ⟨nb, 0, none⟩ (.int .i64 ((k : Int) + 1)))) := by
        refine ⟨s, ?_, ?_, RelBd.refl _ _, kZ.mono (fun b _ h => by omega), ?_, h2, ?_⟩
        · exact (relSys B n P KM).invk ((relSys B n P KM).invk XhinvX.out (hY.mono fun b _ h e => by subst e; exact h Xhfl.out.1)) (kZ.mono fun b _ h e => by subst e; exact h h2)
        · exact (XhVX.out.keep hY (fun b h1 h2 => by omega)).keep kZ (fun b h1 h2 => by omega)
        · have : ((k + 1 : Nat) : Int) = (k : Int) + 1 := by simp
          rw [this]; exact hb'
        · exact (h3.keepOn hY (fun b hb _ => by omega)).keepOn kZ (fun b hb _ => by omega)
      clear hb' kZ h1 h2 h3 hbY hY hYs hYl hXz
      have Xhf := Lib.hid hf
      clear hf
      gi_wp2
      exact Xhf.out
    case done =>
      rintro D s W hD hfD hWD hsd ⟨h1, h2, h3⟩ hinvW hVW
      have c1 := h1.cell
      have l1 := h1.lt
      have XhinvW := Lib.hid hinvW
      have XhVW := Lib.hid hVW
      have XhfD := Lib.hid hfD
      have XhWD := Lib.hid hWD
      have Xh1 := Lib.hid h1
      have Xh2 := Lib.hid h2
      have Xh3 := Lib.hid h3
      clear hinvW hVW hfD hWD h1 h2 h3
      gi_wp2
      refine leaves_mark XhWD.out (leaves_nil (results_tmp2 rfl _ _ _) ⟨?_, s, ?_, ?_⟩)
      · have : ((matchD n s1.ts cols key lo hi).length : Int) = (countD n s0.ts cols key lo hi).1 ∧ (countD n s0.ts cols key lo hi).2 = 0 := by rw [Xhcnt.out, XhN1.out]; exact ⟨rfl, rfl⟩
        rw [← this.1, this.2]; rfl
      · exact (relSys B n P KM).invk XhinvW.out (Keep.putObj _ _ _ (by simpa using XhfD.out))
      · exact Xh3.out.keepOn (Keep.putObj (C := fun b => b ≠ D) _ _ _ (by simp)) (fun b hb _ => by omega)
end Go.Proofs
