/- Layer 4, the law RelationMeanwhile: what is known between its steps; the plain law of its places. -/
import Derived.Test.YtbaemcmagkmjiaaProg
import Derived.Test.YtbaemcmagkmjiaaRelY
import Derived.Test.YtbaemcmagkmjiaaRelZ
import Derived.Test.YtbaemcmagkmjiaaRelAA
import Derived.Test.YtbaemcmagkmjiaaHoistR
namespace Go.Proofs
open Go.RowKit Go.Ink
set_option linter.unusedVariables false
set_option linter.unusedSimpArgs false

/-- between the steps of RelationMeanwhile -/
structure MwSt (w : World) (b7 b10 bT bR B n P K Bf : Nat) (v2 : Value) (s : RelS) (F : Nat → Prop) (vL : Value) (svs : List Value) (X : World) : Prop where
  both : Both B n P K s F Bf vL svs X
  h7 : BoxAt X b7 22 v2
  h10 : ∃ v, BoxAt X b10 4 (.bool v)
  hT : BoxAt X bT 24 (.pointer (some ⟨B, 0, none⟩))
  hR : BoxAt X bR 25 (.pointer (some ⟨Bf, 0, none⟩))
  out : ∀ b, (b < w.heap.size ∨ b = b7 ∨ b = b10 ∨ b = bT ∨ b = bR) → Outside s F b
  keep : Keep (fun b => b < w.heap.size) w X
theorem MwSt.on {w : World} {b7 b10 bT bR B n P K Bf : Nat} {v2 : Value} {s s' : RelS} {F F' : Nat → Prop} {vL vL' : Value} {svs svs' : List Value} {X Y : World} (h : MwSt w b7 b10 bT bR B n P K Bf v2 s F vL svs X) (hb : Both B n P K s' F' Bf vL' svs' Y) (hK : Keep (Outside s F) X Y) (ho : BothOn s F X.heap.size s' F') : MwSt w b7 b10 bT bR B n P K Bf v2 s' F' vL' svs' Y := by
  obtain ⟨v, h10⟩ := h.h10
  have hz := h.keep.size
  refine ⟨hb, h.h7.keep hK (h.out _ (by simp)), ⟨v, h10.keep hK (h.out _ (by simp))⟩, h.hT.keep hK (h.out _ (by simp)), h.hR.keep hK (h.out _ (by simp)), fun b hb' => ho.out ?_ (h.out b hb'), h.keep.trans (hK.mono fun b _ hb' => h.out b (.inl hb'))⟩
  rcases hb' with h1 | h1 | h1 | h1 | h1
  · omega
  · rw [h1]; exact h.h7.lt
  · rw [h1]; exact h10.lt
  · rw [h1]; exact h.hT.lt
  · rw [h1]; exact h.hR.lt
/-- nothing of theirs was touched -/
theorem MwSt.stay {w : World} {b7 b10 bT bR B n P K Bf : Nat} {v2 : Value} {s : RelS} {F : Nat → Prop} {vL : Value} {svs : List Value} {X Y : World} {C : Nat → Prop} (h : MwSt w b7 b10 bT bR B n P K Bf v2 s F vL svs X) (hK : Keep C X Y) (hC : ∀ b, b < X.heap.size → (¬ Outside s F b ∨ b < w.heap.size ∨ b = b7 ∨ b = b10 ∨ b = bT ∨ b = bR) → C b) : MwSt w b7 b10 bT bR B n P K Bf v2 s F vL svs Y := by
  obtain ⟨v, h10⟩ := h.h10
  have hz := h.keep.size
  refine ⟨h.both.keep hK (fun b hb hl => hC b hl (.inl (fun ho => hb.elim (fun h1 => h1 ho.1) ho.2))), h.h7.keep hK (hC _ h.h7.lt (by simp)), ⟨v, h10.keep hK (hC _ h10.lt (by simp))⟩, h.hT.keep hK (hC _ h.hT.lt (by simp)), h.hR.keep hK (hC _ h.hR.lt (by simp)), h.out, h.keep.trans (hK.mono fun b hb hb' => hC b (by omega) (.inr (.inl hb')))⟩
/-- the program's relation has gone on by an iterator's step -/
theorem MwSt.same {w : World} {b7 b10 bT bR B n P K Bf : Nat} {v2 : Value} {s s' : RelS} {F : Nat → Prop} {vL : Value} {svs : List Value} {X Y : World} (h : MwSt w b7 b10 bT bR B n P K Bf v2 s F vL svs X) (hi : RelInv B n P K s' Y) (hs : RelSame s X s' Y) : MwSt w b7 b10 bT bR B n P K Bf v2 s' F vL svs Y := by
  have hK : Keep (fun b => s.tag b = none) X Y := hs.keep.mono fun b hb h => ⟨h, hb⟩
  refine h.on ⟨hi, ?_, fun b hF => hs.free (h.both.lt b hF) (h.both.apart b hF), fun b hF => Nat.lt_of_lt_of_le (h.both.lt b hF) hK.size⟩ (hK.mono fun b _ ho => ho.1) ⟨⟨⟨[], by simp [hs.same]⟩, hs.le, hs.new, hs.sub⟩, fun b hF => .inl hF⟩
  rw [hs.same]
  exact h.both.ref.keep hK (fun b hF _ => h.both.apart b hF)

/-- an iterator may be asked for more -/
theorem iterG_U {Γ : Type} {P : Program} {g : Nat} {lb : Array Value} {Sy : IterSys Γ} {N : Γ → Nat} {A : Γ → Nat → Γ → Nat → World → Array Value → Prop} {V : World → Prop} {U U' : Nat → Prop} (h : IterG P g lb Sy N A V U) (hU : ∀ b, U b → U' b) : IterG P g lb Sy N A V U' :=
  fun l J Jx W γ0 h1 h2 h3 h4 h5 h6 h7 h8 => h l J Jx W γ0 h1 h2 h3 (fun b hb => h4 b (hU b hb)) h5 h6 h7 h8

/-- what a round of RelationMeanwhile knows (Wr: where the range began; Q: what stays from there on) -/
structure MwRd (Wr : World) (Q : Nat → Prop) (b20 n Bf : Nat) (base lm : Nat) (s0 : RelS) (k : Nat) (s : RelS) (X : World) : Prop where
  ref : ∃ F vL svs, RefOwn F X Bf n s.ts vL svs ∧ (∀ b, F b → s.tag b = none ∧ b < X.heap.size ∧ (b < Wr.heap.size ∨ Wr.heap.size + 2 ≤ b)) ∧ (∀ b, Q b → ¬ F b) ∧ ¬ F b20
  box : BoxAt X b20 3 (.int .i64 (k : Int))
  fr : s.tag b20 = none ∧ ∀ b, Q b → s.tag b = none
  keep : Keep Q Wr X
  len : s.ts.length ≤ base + min k lm
  pre : ∃ us, s.ts = s0.ts ++ us
theorem MwRd.on {Wr : World} {Q : Nat → Prop} {b20 n Bf base lm : Nat} {s0 s : RelS} {k : Nat} {X Y : World} (h : MwRd Wr Q b20 n Bf base lm s0 k s X) (hQ : ∀ b, Q b → b < Wr.heap.size) (hb : b20 < Wr.heap.size) (hK : Keep (fun b => b < Wr.heap.size ∨ Wr.heap.size + 2 ≤ b) X Y) : MwRd Wr Q b20 n Bf base lm s0 k s Y := by
  obtain ⟨F, vL, svs, r1, r2, r3, r4⟩ := h.ref
  exact ⟨⟨F, vL, svs, r1.keep hK (fun b hF _ => (r2 b hF).2.2), fun b hF => ⟨(r2 b hF).1, Nat.lt_of_lt_of_le (r2 b hF).2.1 hK.size, (r2 b hF).2.2⟩, r3, r4⟩, h.box.keep hK (.inl hb), h.fr, h.keep.trans (hK.mono fun b _ hq => .inl (hQ b hq)), h.len, h.pre⟩
theorem MwRd.it {B P K : Nat} {Wr : World} {Q : Nat → Prop} {b20 n Bf base lm : Nat} {s0 s s' : RelS} {k : Nat} {X Y : World} (h : MwRd Wr Q b20 n Bf base lm s0 k s X) (hQ : ∀ b, Q b → b < Wr.heap.size) (hs : RelIt B n P K s X s' Y) : MwRd Wr Q b20 n Bf base lm s0 k s' Y := by
  obtain ⟨F, vL, svs, r1, r2, r3, r4⟩ := h.ref
  have hn : ∀ b, b < X.heap.size → s.tag b = none → s'.tag b = none := (relSys B n P K).inew hs
  refine ⟨⟨F, vL, svs, by rw [hs.same]; exact r1.keep hs.keep (fun b hF _ => (r2 b hF).1), fun b hF => ⟨hn b (r2 b hF).2.1 (r2 b hF).1, Nat.lt_of_lt_of_le (r2 b hF).2.1 hs.keep.size, (r2 b hF).2.2⟩, r3, r4⟩, h.box.keep hs.keep h.fr.1, ⟨hn _ h.box.lt h.fr.1, fun b hq => hn b (Nat.lt_of_lt_of_le (hQ b hq) h.keep.size) (h.fr.2 b hq)⟩, h.keep.trans (hs.keep.mono fun b _ hq => h.fr.2 b hq), by rw [hs.same]; exact h.len, ?_⟩
  obtain ⟨us, hus⟩ := h.pre
  exact ⟨us, by rw [hs.same]; exact hus⟩

theorem match_all {n : Nat} {ts : List (List Int)} {hi : Int} (h : (ts.length : Int) ≤ hi) : matchD n ts [] [] 0 hi = List.range ts.length := by
  unfold matchD
  rw [if_pos (by rfl)]
  refine List.filter_eq_self.2 fun i hi' => ?_
  rw [List.mem_range] at hi'
  unfold hitAt keyedD
  simp
  omega
theorem nil_ints (w : World) : IntsIn 0 w (.slice none 0 0) [] := ⟨none, 0, rfl, by simp, ⟨Nat.le_refl _, by simp [maxLen]⟩, fun k x hk => by simp at hk⟩
end Go.Proofs
