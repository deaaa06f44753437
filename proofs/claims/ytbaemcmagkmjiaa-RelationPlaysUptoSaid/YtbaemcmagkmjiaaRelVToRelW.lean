/- Layer 4, the program's relation: Count. -/
import Derived.Test.YtbaemcmagkmjiaaProg
import Derived.Test.YtbaemcmagkmjiaaRelTToRelU
import Derived.Test.YtbaemcmagkmjiaaRelIToOwnB
namespace Go.Proofs
open Go.RowKit Go.Ink
set_option linter.unusedVariables false
set_option linter.unusedSimpArgs false
attribute [local go_sem] Oper.semAt_some

/-- the relation has stayed, as to its tuples, from w on -/
structure RelSame (s0 : RelS) (w : World) (s : RelS) (X : World) : Prop where
  keep : Keep (fun b => s0.tag b = none ∧ b < w.heap.size) w X
  same : s.ts = s0.ts
  le : TagLe s0.tag s.tag
  new : TagNew s0.tag s.tag w
  sub : ∀ p, p ∈ s0.lm → p ∈ s.lm
theorem RelSame.refl (s : RelS) (w : World) : RelSame s w s w := ⟨Keep.refl _ _, rfl, TagLe.refl _, TagNew.refl _ _, fun _ h => h⟩
theorem RelSame.it {B n P K : Nat} {s0 s s' : RelS} {w X Y : World} (h : RelSame s0 w s X) (g : RelIt B n P K s X s' Y) : RelSame s0 w s' Y := by
  have hf : ∀ b, s0.tag b = none → b < w.heap.size → s.tag b = none := fun b h1 h2 => by
    cases hT : s.tag b with
    | none => rfl
    | some T =>
      rcases h.new b T hT with ⟨T', h3⟩ | h3
      · rw [h1] at h3; cases h3
      · omega
  exact ⟨h.keep.trans (g.keep.mono fun b _ hb => hf b hb.1 hb.2), g.same.trans h.same, h.le.trans g.le, h.new.trans g.new h.keep.size, fun p hp => g.sub p (h.sub p hp)⟩
theorem RelSame.keepOn {s0 s : RelS} {w X Y : World} {C : Nat → Prop} (h : RelSame s0 w s X) (hK : Keep C X Y) (hC : ∀ b, b < w.heap.size → s0.tag b = none → C b) : RelSame s0 w s Y :=
  ⟨h.keep.trans (hK.mono fun b _ hb => hC b hb.2 hb.1), h.same, h.le, h.new, h.sub⟩
theorem RelSame.trans {s0 s s' : RelS} {w X Y : World} (h : RelSame s0 w s X) (g : RelSame s X s' Y) : RelSame s0 w s' Y := by
  have hf : ∀ b, s0.tag b = none → b < w.heap.size → s.tag b = none := fun b h1 h2 => by
    cases hT : s.tag b with
    | none => rfl
    | some T =>
      rcases h.new b T hT with ⟨T', h3⟩ | h3
      · rw [h1] at h3; cases h3
      · omega
  exact ⟨h.keep.trans (g.keep.mono fun b hb hc => ⟨hf b hc.1 hc.2, hb⟩), g.same.trans h.same, h.le.trans g.le, h.new.trans g.new h.keep.size, fun p hp => g.sub p (h.sub p hp)⟩
theorem RelIt.toSame {B n P K : Nat} {s s' : RelS} {X Y : World} (h : RelIt B n P K s X s' Y) : RelSame s X s' Y := (RelSame.refl s X).it h

def countD (n : Nat) (ts : List (List Int)) (cols key : List Int) (lo hi : Int) : Int × Int :=
  if (rowD n cols && decide (key.length = cols.length)) = true then (((matchD n ts cols key lo hi).length : Int), 0) else (0, 2)

set_option maxRecDepth 100000 in
set_option maxHeartbeats 2000000 in
theorem relCount_any {B n P KM : Nat} {s0 : RelS} {w : World} (hinv : RelInv B n P KM s0 w) (m : Nat) (vc vk : Value) (cols key : List Int) (lo hi : Int) (hs : IntsIn m w vc cols) (hsk : IntsIn m w vk key) (hm : m ≤ w.heap.size) (hok : okT key) (hfc : FreeOf s0.tag vc) (hfk : FreeOf s0.tag vk) :
    Calls Try.prog 23 #[.pointer (some ⟨B, 0, none⟩), vc, vk, .int .i64 lo, .int .i64 hi] w fun e w' => e = .returned (.tuple #[.int .i64 (countD n s0.ts cols key lo hi).1, .int .i64 (countD n s0.ts cols key lo hi).2]) ∧
      ∃ s', RelInv B n P KM s' w' ∧ RelSame s0 w s' w' := by
  refine calls_of Try.func23 rfl ?_
  simp only [Try.ntmps23, List.size_toArray, List.length_cons, List.length_nil, Nat.reduceAdd, Nat.reduceSub, Array.replicate_succ, Array.replicate_zero, List.push_toArray, List.append_toArray, List.nil_append, List.cons_append]
  obtain ⟨ac, cc, rfl, hlt, hct, het⟩ := id hs
  obtain ⟨ak, ck, rfl, hltk, hctk, hetk⟩ := id hsk
  have hfew := hinv.few
  have hfd := found_any hinv.own (by omega) m _ _ cols key hs hsk hm hok hfk
  have Xhinv := Lib.hid hinv
  have Xhs := Lib.hid hs
  have Xhet := Lib.hid het
  have Xhsk := Lib.hid hsk
  have Xhetk := Lib.hid hetk
  have Xhok := Lib.hid hok
  have Xhfc := Lib.hid hfc
  have Xhfk := Lib.hid hfk
  have Xhfd := Lib.hid hfd
  clear hinv hs het hsk hetk hok hfc hfk hfd
  gi_wp2
  refine ⟨trivial, rfl, (callsIn_wide.2 (made_any Xhinv.out.own.box)).mono ?_⟩
  rintro e w1 ⟨rfl, hw1⟩
  have hw1 := hw1.symm
  subst hw1
  gi_wp2
  refine ⟨trivial, rfl, (callsIn_wide.2 Xhfd.out).mono ?_⟩
  rintro e W1 ⟨v, tag1, lm1, rfl, k1, hG1, hle1, hnew1, hsub1, hF, hnil⟩
  obtain ⟨s1, hs1⟩ : ∃ s1 : RelS, s1 = ⟨tag1, s0.ts, s0.vD, lm1⟩ := ⟨_, rfl⟩
  have hinv1 : RelInv B n P KM s1 W1 := by rw [hs1]; exact ⟨hG1, hfew⟩
  have hist : RelIt B n P KM s0 w s1 W1 := by rw [hs1] at hinv1 ⊢; exact ⟨k1, rfl, hle1, hnew1, hsub1, hinv1⟩
  have hsame1 := hist.toSame
  have hts1 : s1.ts = s0.ts := by rw [hs1]
  have kf1 := hsame1.keep
  have hs1c := ints_free Xhs.out Xhfc.out kf1 (fun b hb hbm => ⟨hb, by omega⟩)
  have hs1k := ints_free Xhsk.out Xhfk.out kf1 (fun b hb hbm => ⟨hb, by omega⟩)
  have hz1 := kf1.size
  have hcnt : countD n s0.ts cols key lo hi = if (rowD n cols && decide (key.length = cols.length)) = true then (((matchD n s0.ts cols key lo hi).length : Int), 0) else (0, 2) := rfl
  clear hs1 hG1 hle1 hnew1 hsub1 hF hnil k1 hist kf1
  obtain ⟨good, hgood⟩ : ∃ good, (rowD n cols && decide (key.length = cols.length)) = good := ⟨_, rfl⟩
  rw [hgood] at hcnt
  rw [hgood]
  have Xhinv1 := Lib.hid hinv1
  have Xhsame1 := Lib.hid hsame1
  have Xhts1 := Lib.hid hts1
  have Xhs1c := Lib.hid hs1c
  have Xhs1k := Lib.hid hs1k
  have Xhcnt := Lib.hid hcnt
  have Xhgood := Lib.hid hgood
  clear hinv1 hsame1 hts1 hs1c hs1k hcnt hgood
  cases good with
  | false =>
    gi_wp2
    refine leaves_nil (results_tmp2 rfl _ _ _) ⟨?_, s1, Xhinv1.out, Xhsame1.out⟩
    rw [Xhcnt.out]; rfl
  | true =>
    gi_wp2
    obtain ⟨nb, hnb⟩ : ∃ nb, W1.heap.size = nb := ⟨_, rfl⟩
    obtain ⟨W2, hW2⟩ : ∃ W2, W1.alloc (.cells #[.int .i64 0] 3) = W2 := ⟨_, rfl⟩
    have k2 : Keep (fun _ => True) W1 W2 := by rw [← hW2]; exact Keep.alloc _ _ _
    have z2 : W2.heap.size = nb + 1 := by rw [← hW2, ← hnb]; simp
    have b2 : BoxAt W2 nb 3 (.int .i64 0) := by rw [← hW2, ← hnb]; exact new_block _ _
    have hmt := relMatch_any W2 B m _ _ cols key lo hi (ints_stay Xhs1c.out (m := m) (k2.mono fun _ _ _ => trivial) (Nat.le_refl _)) (ints_stay Xhs1k.out (m := m) (k2.mono fun _ _ _ => trivial) (Nat.le_refl _)) (by omega)
    rw [hnb, hW2]
    refine ⟨trivial, rfl, (callsIn_wide.2 hmt).mono ?_⟩
    rintro e W3 ⟨bR, bL, bK, bT, bF, vl, vk', rfl, k3, hV3⟩
    have k13 : Keep (fun _ => True) W1 W3 := k2.trans k3
    have hinv3 := Xhinv1.out.keep (k13.mono fun _ _ _ => trivial)
    have hsame3 := Xhsame1.out.keepOn k13 (fun _ _ _ => trivial)
    have b3 := b2.keep k3 trivial
    have z3 := k3.size
    have hnt : s1.tag nb = none := by
      cases hT : s1.tag nb with
      | none => rfl
      | some T => have := Xhinv1.out.own.lt nb T hT; omega
    have hfr3 : ∀ b, W2.heap.size ≤ b → s1.tag b = none := fun b hb => by
      cases hT : s1.tag b with
      | none => rfl
      | some T => have := Xhinv1.out.own.lt b T hT; omega
    have hN1 : (matchD n s1.ts cols key lo hi).length = (matchD n s0.ts cols key lo hi).length := by rw [Xhts1.out]
    have hml := matchD_len n s1.ts cols key lo hi
    have hfew1 := Xhinv1.out.few
    have hz13 := k13.size
    have hwnb : w.heap.size ≤ nb := by omega
    clear hmt k2 k13 b2 hW2 hnb
    have XhV3 := Lib.hid hV3
    have Xhinv3 := Lib.hid hinv3
    have Xhsame3 := Lib.hid hsame3
    have Xb3 := Lib.hid b3
    have Xhnt := Lib.hid hnt
    have Xhfr3 := Lib.hid hfr3
    have XhN1 := Lib.hid hN1
    have Xk3 := Lib.hid k3
    clear hV3 hinv3 hsame3 b3 hnt hfr3 hN1 k3
    gi_wp2
    refine range_outerG (relSys B n P KM) s1 (gf := 32) (lb := #[.pointer (some ⟨bR, 0, none⟩), .pointer (some ⟨bL, 0, none⟩), .pointer (some ⟨bK, 0, none⟩), .pointer (some ⟨bT, 0, none⟩), .pointer (some ⟨bF, 0, none⟩)]) rfl (enters Try.func32 (by kernel_rfl) rfl)
      (relMatch_iter B n P KM W2.heap.size W3.heap.size bR bL bK bT bF vl vk' lo hi cols key Xhok.out hlt hltk) (fun b hb => Xhfr3.out b hb.1)
      (fun γ0 k γ n X args h => by obtain ⟨i, t, _, _, v, rfl, _⟩ := h; rfl) Xhinv3.out (fun b hb => Xhfr3.out b (by omega)) XhV3.out (fun X Y hV hK => hV.keep hK (fun b h1 h2 => h2))
      (fun k s X => BoxAt X nb 3 (.int .i64 (k : Int)) ∧ s.tag nb = none ∧ RelSame s0 w s X) (fun c k s X => False) ?hI ?hIx ?hIs ?hIxs ?h0 ?round ?done ?stop
    case hI =>
      rintro k s X Y ⟨h1, h2, h3⟩ hK
      exact ⟨h1.keep hK (.inl (by omega)), h2, h3.keepOn hK (fun b hb _ => .inl (by omega))⟩
    case hIx => rintro c k s X Y h; exact h.elim
    case hIs =>
      rintro k s X s' Y ⟨h1, h2, h3⟩ hs
      exact ⟨h1.keep ((relSys B n P KM).ifree hs) h2, (relSys B n P KM).inew hs nb h1.lt h2, h3.it hs⟩
    case hIxs => rintro c k s X s' Y h; exact h.elim
    case h0 => exact ⟨Xb3.out, Xhnt.out, Xhsame3.out⟩
    case stop => rintro D c k s W _ _ _ _ _ h; exact h.elim
    case round =>
      rintro l k s X0 X args hBl hlX hfl hk ⟨h1, h2, h3⟩ hs hinvX hVX hsz hA
      obtain ⟨i, t, hi1, hi2, v', rfl, hv1, hv2⟩ := hA
      have hX : BoxAt X nb 3 (.int .i64 (k : Int)) ∧ s.tag nb = none ∧ RelSame s0 w s X := ⟨h1.keep ((relSys B n P KM).ifree hs) h2, (relSys B n P KM).inew hs nb h1.lt h2, h3.it hs⟩
      clear h1 h2 h3 hi1 hi2 hv1
      have Xhs := Lib.hid hs
      have XhinvX := Lib.hid hinvX
      have XhVX := Lib.hid hVX
      have XhX := Lib.hid hX
      have Xhfl := Lib.hid hfl
      clear hs hinvX hVX hX hfl
      gi_wp2
      refine ⟨Keep.refl _ _, fun Y hY hYs hYl => ?_⟩
      obtain ⟨h1, h2, h3⟩ := XhX.out
      have hXz : X0.heap.size ≤ X.heap.size := ((relSys B n P KM).ifree Xhs.out).size
      have hbY := h1.keep hY (by omega)
      have cY := hbY.cell
      have cfY := box_free hbY 0
      have lY := hbY.lt
      have hkn : (k : Int) + 1 ≤ 67108864 := by
        have : k < (matchD n s1.ts cols key lo hi).length := hk
        omega
      have hk0 : (0 : Int) ≤ k := by omega
      have hb' := set_box (.int .i64 ((k : Int) + 1)) hbY
      have kZ : Keep (fun b => b ≠ nb) Y (Y.setCell ⟨nb, 0, none⟩ (.int .i64 ((k : Int) + 1))) := Keep.setCell _ _ _ (by simp)
      have hf : bodyEndG (relSys B n P KM) W3.heap.size l X.heap.size (MatchV W2.heap.size W3.heap.size bR bL bK bT bF B vl vk' lo hi cols key) s Y (Y.setCell ⟨nb, 0, none⟩ (.int .i64 ((k : Int) + 1))) (fun s' => BoxAt (Y.setCell ⟨nb, 0, none⟩ (.int .i64 ((k : Int) + 1))) nb 3 (.int .i64 ((k + 1 : Nat) : Int)) ∧ s'.tag nb = none ∧ RelSame s0 w s' (Y.setCell ⟨nb, 0, none⟩ (.int .i64 ((k : Int) + 1)))) := by
        refine ⟨s, ?_, ?_, RelBd.refl _ _, kZ.mono (fun b _ h => by omega), ?_, h2, ?_⟩
        · exact (relSys B n P KM).invk ((relSys B n P KM).invk XhinvX.out (hY.mono fun b _ h e => by subst e; exact h Xhfl.out.1)) (kZ.mono fun b _ h e => by subst e; exact h h2)
        · exact (XhVX.out.keep hY (fun b h1 h2 => by omega)).keep kZ (fun b h1 h2 => by omega)
        · have : ((k + 1 : Nat) : Int) = (k : Int) + 1 := by simp
          rw [this]; exact hb'
        · exact (h3.keepOn hY (fun b hb _ => by omega)).keepOn kZ (fun b hb _ => by omega)
      clear hb' kZ h1 h2 h3 hbY hY hYs hYl hXz
      have Xhf := Lib.hid hf
      clear hf
      gi_wp2
      exact Xhf.out
    case done =>
      rintro D s W hD hfD hWD hsd ⟨h1, h2, h3⟩ hinvW hVW
      have c1 := h1.cell
      have l1 := h1.lt
      have XhinvW := Lib.hid hinvW
      have XhVW := Lib.hid hVW
      have XhfD := Lib.hid hfD
      have XhWD := Lib.hid hWD
      have Xh1 := Lib.hid h1
      have Xh2 := Lib.hid h2
      have Xh3 := Lib.hid h3
      clear hinvW hVW hfD hWD h1 h2 h3
      gi_wp2
      refine leaves_mark XhWD.out (leaves_nil (results_tmp2 rfl _ _ _) ⟨?_, s, ?_, ?_⟩)
      · have : ((matchD n s1.ts cols key lo hi).length : Int) = (countD n s0.ts cols key lo hi).1 ∧ (countD n s0.ts cols key lo hi).2 = 0 := by rw [Xhcnt.out, XhN1.out]; exact ⟨rfl, rfl⟩
        rw [← this.1, this.2]; rfl
      · exact (relSys B n P KM).invk XhinvW.out (Keep.putObj _ _ _ (by simpa using XhfD.out))
      · exact Xh3.out.keepOn (Keep.putObj (C := fun b => b ≠ D) _ _ _ (by simp)) (fun b hb _ => by omega)
end Go.Proofs

/- Append of one element to a slice whose block is known, whatever its capacity. No program is named here. -/
namespace Go.Ink
open Go.RowKit
set_option linter.unusedVariables false
set_option linter.unusedSimpArgs false
variable {P : Program}

/-- a slice of n elements of one cell that may be written: nil, or at the head of a block -/
def LooseIn (w : World) (e : TypeId) (v : Value) (n : Nat) : Prop :=
  (v = .slice none 0 0 ∧ n = 0) ∨ ∃ (g c : Nat) (cur : Array Value), v = .slice (some ⟨g, 0, none⟩) n c ∧ w.heap[g]? = some (.cells cur e (0, 0)) ∧ n ≤ c ∧ c ≤ maxLen ∧ c ≤ cur.size
theorem LooseIn.keep {w w' : World} {e : TypeId} {v : Value} {n : Nat} {C : Nat → Prop} (h : LooseIn w e v n) (hK : Keep C w w') (hC : ∀ b, v.ownBlock = some b → C b) : LooseIn w' e v n := by
  rcases h with h | ⟨g, c, cur, rfl, h1, h2⟩
  · exact .inl h
  · exact .inr ⟨g, c, cur, rfl, hK.heap h1 (hC g rfl), h2⟩
theorem LooseIn.of_own {w : World} {base : Nat} {e : TypeId} {v : Value} {n : Nat} {xs : List Value} (h : w.ownsRow base e 1 v n xs) : LooseIn w e v n := by
  rcases h.2 with ⟨e1, e2⟩ | ⟨g, cap, cur, e1, e2, e3, e4, e5, e6, e7⟩
  · exact .inl ⟨e1, e2⟩
  · exact .inr ⟨g, cap, cur, e1, e3, e4, e5, by omega⟩
theorem LooseIn.lt {w : World} {e : TypeId} {v : Value} {n : Nat} (h : LooseIn w e v n) : ∀ b, v.ownBlock = some b → b < w.heap.size := by
  rcases h with ⟨rfl, _⟩ | ⟨g, c, cur, rfl, h1, h2⟩
  · intro b hb; simp [Value.ownBlock] at hb
  · intro b hb
    simp only [Value.ownBlock, Option.some.injEq] at hb
    subst hb
    exact heap_lt h1

theorem appL {t e : TypeId} {bytes : Nat} (hE : ElemOf P t e 1 bytes) (ty : TypeId) {w : World} {v : Value} {n : Nat} (hown : LooseIn w e v n)
    (a : Addr) (c : Nat) (u : Value) (hu : w.cell? a = some u) (hadd : a.add 0 = a) (h1 : u.oneCell' = true) (hnm : n + 1 ≤ 8589934592) :
    ∃ v' w', (Builtin.append_ #[t, t] ty #[v, .slice (some a) 1 c]).run P w = .ok v' w' ∧ LooseIn w' e v' (n + 1) ∧ (∀ b, v'.ownBlock = some b → v.ownBlock = some b ∨ w.heap.size ≤ b) ∧ Keep (fun b => v'.ownBlock ≠ some b) w w' := by
  obtain ⟨ht, hsz, hby, i, z, hi, hz, hsize, hbytes, hzs⟩ := hE
  subst hbytes
  have hb47 : (n + 1) * i.bytes ≤ 140737488355328 := Nat.le_trans (Nat.mul_le_mul hnm hby) (by decide)
  have h63 : n + 1 ≤ maxLen := by simp only [maxLen]; omega
  have hnews : ∀ j u', ([u] : List Value)[j]? = some u' → w.cell? (a.add j) = some u' := fun j u' hj => by
    cases j with
    | zero => simp at hj; subst hj; rw [hadd]; exact hu
    | succ j => simp at hj
  have hone : ∀ x ∈ ([u] : List Value), x.oneCell' = true := fun x hx => by simp at hx; subst hx; exact h1
  have grown : ∀ (old : Nat) (xs : List Value), xs.length = n → old < n + 1 →
      LooseIn (w.drew.alloc (.cells (xs.toArray ++ #[u] ++ Builtin.zeroCells z.cells (grownCap w (n + 1) old e - (n + 1))) e)) e (.slice (some ⟨w.heap.size, 0, none⟩) (n + 1) (grownCap w (n + 1) old e)) (n + 1) ∧
      Keep (fun _ => True) w (w.drew.alloc (.cells (xs.toArray ++ #[u] ++ Builtin.zeroCells z.cells (grownCap w (n + 1) old e - (n + 1))) e)) := by
    intro old xs hxs ho
    have hge := grownCap_ge w (n + 1) old e
    have hcm : grownCap w (n + 1) old e ≤ maxLen := grownCap_le_maxLen w (n + 1) old e h63
    refine ⟨.inr ⟨w.heap.size, _, _, rfl, World.alloc_heap_new w.drew _, hge, hcm, ?_⟩, (Keep.drew _ _).trans (Keep.alloc _ _ _)⟩
    simp only [Array.size_append, List.size_toArray, size_zeroCells, hzs, hsize, hxs]
    simp
    omega
  rcases hown with ⟨rfl, rfl⟩ | ⟨g, cap, cur, rfl, hg, hnc, hcm, hcs⟩
  · have hr := run_append_nil (P := P) w t ty e i z ht hi hz a 1 c [u] (by simp [hsize]) hnews (by omega) (by omega) (by have hb := hb47; simp only [Nat.zero_add] at hb; omega)
    have hgr := grown 0 [] rfl (by omega)
    simp only [Nat.zero_add, Array.empty_append] at hgr ⊢
    refine ⟨_, _, hr, hgr.1, fun b hb => ?_, hgr.2.mono fun _ _ _ => trivial⟩
    simp only [Value.ownBlock, Option.some.injEq] at hb
    exact .inr (by omega)
  · by_cases hroom : n + 1 ≤ cap
    · have hr := run_append_room (P := P) w t ty e i ht hi g n cap cur hg a 1 c [u] (by simp [hsize]) hnews hone hroom (by rw [hsize]; simp; omega)
      refine ⟨_, _, hr, .inr ⟨g, cap, _, rfl, setRow_heap w g cur _ e _ hg, hroom, hcm, ?_⟩, fun b hb => .inl hb, ⟨rfl, rfl, rfl, by simp, fun k _ hk => setRow_other w g k _ (fun e => hk (by simp [Value.ownBlock, e]))⟩⟩
      simp only [List.size_toArray, List.length_append, List.length_take, List.length_drop, Array.length_toList, hsize]
      simp
      omega
    · have hlen : (cur.toList.take n).length = n := by rw [List.length_take, Array.length_toList]; omega
      have holds : ∀ j u', (cur.toList.take n)[j]? = some u' → w.cell? ((⟨g, 0, none⟩ : Addr).add j) = some u' := fun j u' hj => by
        have hjn := (List.getElem?_eq_some_iff.1 hj).1
        rw [hlen] at hjn
        rw [List.getElem?_take_of_lt hjn] at hj
        have := cells_of_block hg j u' hj
        rw [Nat.zero_add] at this
        rw [show ((⟨g, 0, none⟩ : Addr).add j) = ⟨g, j, none⟩ from by unfold Addr.add; split <;> simp_all]
        exact this
      have hr := run_append_grow (P := P) w t ty e i z ht hi hz ⟨g, 0, none⟩ n cap (cur.toList.take n) (by rw [hlen, hsize, Nat.mul_one]) holds a 1 c [u] (by simp [hsize]) hnews (by omega) (by omega) (growslice_fits (by omega) hb47)
      have hgr := grown cap (cur.toList.take n) hlen (by omega)
      refine ⟨_, _, hr, hgr.1, fun b hb => ?_, hgr.2.mono fun _ _ _ => trivial⟩
      simp only [Value.ownBlock, Option.some.injEq] at hb
      exact .inr (by omega)
/-- a store into it -/
theorem LooseIn.set {w : World} {e : TypeId} {n c g : Nat} (h : LooseIn w e (.slice (some ⟨g, 0, none⟩) n c) n) (j : Nat) (u : Value) : LooseIn (w.setCell ⟨g, j, none⟩ u) e (.slice (some ⟨g, 0, none⟩) n c) n := by
  rcases h with ⟨h, _⟩ | ⟨g', c', cur, h0, h1, h2, h3, h4⟩
  · cases h
  · injection h0 with q1 q2 q3
    injection q1 with q1
    injection q1 with q1
    subst q1
    subst q3
    exact .inr ⟨_, _, _, rfl, set_at j u h1, h2, h3, by simpa using h4⟩
end Go.Ink

/- Layer 4, the law: spoil. -/
namespace Go.Proofs
open Go.RowKit Go.Ink
set_option linter.unusedVariables false
set_option linter.unusedSimpArgs false
attribute [local go_sem] Oper.semAt_some

set_option maxRecDepth 100000 in
set_option maxHeartbeats 1000000 in
theorem spoil_any {w : World} {v : Value} {n : Nat} (h : LooseIn w 3 v n) (hn : n ≤ 1073741824) :
    Calls Try.prog 38 #[v] w fun e w' => e = .returned (.tuple #[]) ∧ Keep (fun b => v.ownBlock ≠ some b) w w' := by
  obtain ⟨a, c, rfl⟩ : ∃ a c, v = .slice a n c := by
    rcases h with ⟨h1, h2⟩ | ⟨g, c, cur, h1, _⟩
    · subst h2; exact ⟨_, _, h1⟩
    · exact ⟨_, _, h1⟩
  have Xh := Lib.hid h
  clear h
  go_enter Try.func38, Try.ntmps38
  go_wp2_with fail
  go_loopw [2] (fun i wr => ∃ k : Nat, k ≤ n ∧ i = .int .i64 (k : Int) ∧ LooseIn wr 3 (.slice a n c) n ∧ Keep (fun b => Value.ownBlock (.slice a n c) ≠ some b) w wr) (fun i _ => n - (intOf i).toNat)
  case atStart => exact ⟨0, by omega, rfl, Xh.out, Keep.refl _ _⟩
  case round =>
    obtain ⟨k, hk, rfl, hL, hK⟩ := hrel
    by_cases hlt : k < n
    · obtain ⟨g, cur, hag, hg, h1, h2, h3⟩ : ∃ g cur, a = some ⟨g, 0, none⟩ ∧ wr.heap[g]? = some (.cells cur 3 (0, 0)) ∧ n ≤ c ∧ c ≤ maxLen ∧ c ≤ cur.size := by
        rcases hL with ⟨h1, h2⟩ | ⟨g, c', cur, h1, h2, h3, h4, h5⟩
        · omega
        · injection h1 with q1 q2 q3
          subst q3
          exact ⟨g, cur, q1, h2, h3, h4, h5⟩
      subst hag
      obtain ⟨u0, hu0⟩ : ∃ u0, wr.cell? ⟨g, k, none⟩ = some u0 := by
        have := cells_of_block hg k _ (List.getElem?_eq_getElem (by rw [Array.length_toList]; omega))
        rw [Nat.zero_add] at this
        exact ⟨_, this⟩
      have hfr := box_free hg k
      have hgl := heap_lt hg
      have hL2 := hL.set k (.int .i64 (-9))
      have hK2 : Keep (fun b => Value.ownBlock (.slice (some ⟨g, 0, none⟩) n c) ≠ some b) w (wr.setCell ⟨g, k, none⟩ (.int .i64 (-9))) := hK.trans (Keep.setCell _ _ _ (by simp [Value.ownBlock]))
      have hlt1 : (k : Int) < n := by omega
      have hk0 : (0 : Int) ≤ k := by omega
      have hk1 : (k : Int) + 1 ≤ 1073741824 := by omega
      clear hg hL hK
      have XhL2 := Lib.hid hL2
      have XhK2 := Lib.hid hK2
      clear hL2 hK2
      go_wp2_with fail
      go_roundw
      case rel => exact ⟨k + 1, by omega, by go_num, XhL2.out, XhK2.out⟩
      case measure => simp [intOf]; omega
    · obtain rfl : k = n := by omega
      have XhL := Lib.hid hL
      have XhK := Lib.hid hK
      clear hL hK
      go_wp2_with fail
      go_loopw [3, 0] (fun i t wq => ∃ j : Nat, j ≤ 20 ∧ i = .int .i64 (j : Int) ∧ LooseIn wq 3 t (k + j) ∧ (∀ b, t.ownBlock = some b → Value.ownBlock (.slice a k c) = some b ∨ w.heap.size ≤ b) ∧ Keep (fun b => Value.ownBlock (.slice a k c) ≠ some b) w wq) (fun i _ _ => 20 - (intOf i).toNat)
      case atStart => exact ⟨0, by omega, rfl, XhL.out, fun b hb => .inl hb, XhK.out⟩
      case round =>
        obtain ⟨j, hj, rfl, hL, hb, hK⟩ := hrel
        by_cases hlt : j < 20
        · obtain ⟨W1, hW1⟩ : ∃ W1, wr.alloc (.cells #[.int .i64 (-9)] 3) = W1 := ⟨_, rfl⟩
          have k1 : Keep (fun _ => True) wr W1 := by rw [← hW1]; exact Keep.alloc _ _ _
          have n1 : W1.heap[wr.heap.size]? = some (.cells #[.int .i64 (-9)] 3 (0, 0)) := by rw [← hW1]; exact new_block _ _
          obtain ⟨v', W2, hr2, hL2, hb2, hk2⟩ := appL (P := Try.prog) el_int 23 (hL.keep k1 (fun _ _ => trivial)) ⟨wr.heap.size, 0, none⟩ 1 (.int .i64 (-9)) (box_cell n1) rfl rfl (by omega)
          have hzk := hK.size
          have hz1 := k1.size
          have hb3 : ∀ b, v'.ownBlock = some b → Value.ownBlock (.slice a k c) = some b ∨ w.heap.size ≤ b := fun b hb' => by
            rcases hb2 b hb' with h1 | h1
            · exact hb b h1
            · exact .inr (by omega)
          have hK2 : Keep (fun b => Value.ownBlock (.slice a k c) ≠ some b) w W2 := by
            have h0 : Keep (fun b => Value.ownBlock (.slice a k c) ≠ some b ∧ b < w.heap.size) w W2 := (hK.mono fun b _ h => h.1).trans ((k1.mono fun _ _ _ => trivial).trans (hk2.mono fun b _ h e => by
              rcases hb3 b e with h1 | h1
              · exact h.1 h1
              · have := h.2; omega))
            exact h0.mono fun b hb h => ⟨h, hb⟩
          have hlt1 : (j : Int) < 20 := by omega
          have hj0 : (0 : Int) ≤ j := by omega
          clear hb hb2 hK hL n1 k1 hk2
          have Xhr2 := Lib.hid hr2
          have XhL2 := Lib.hid hL2
          have Xhb3 := Lib.hid hb3
          have XhK2 := Lib.hid hK2
          clear hr2 hL2 hb3 hK2
          go_wp2_with (at_builtin; refine go_app (v := u0) (u := .slice (some ⟨wr.heap.size, 0, none⟩) 1 1) (v' := v') (w' := W2) rfl (.tmp 17) (.tmp 18) 23 rfl rfl rfl Xhr2.out ?_)
          go_roundw
          case rel => exact ⟨j + 1, by omega, by go_num, XhL2.out, Xhb3.out, XhK2.out⟩
          case measure => simp [intOf]; omega
        · obtain rfl : j = 20 := by omega
          have XhL := Lib.hid hL
          have Xhb := Lib.hid hb
          have XhK := Lib.hid hK
          clear hL hb hK
          go_wp2_with fail
          refine bodyPost_end (results_none rfl _ _ _) rfl ?_
          exact ⟨rfl, XhK.out⟩
end Go.Proofs
