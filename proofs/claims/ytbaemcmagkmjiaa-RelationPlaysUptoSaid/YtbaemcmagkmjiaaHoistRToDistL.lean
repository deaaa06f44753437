/- A region that draws its order, inside a fence that lets every function in (a round of a range): what only looks at memory is taken first, then the rest in its forced order. No program is named here. -/
import Derived.WalkKit
import Derived.OrdersHeld
import Derived.OrdersIn
import Derived.Test.YtbaemcmagkmjiaaOwnToRowC
import Derived.Test.YtbaemcmagkmjiaaProg
import Derived.Test.YtbaemcmagkmjiaaRelXToRelY
import Derived.Test.YtbaemcmagkmjiaaRelZ
import Derived.Test.YtbaemcmagkmjiaaRelAA
import Derived.Test.YtbaemcmagkmjiaaData
namespace Go.Ink
open Go.RowKit
set_option linter.unusedVariables false
set_option linter.unusedSimpArgs false
section
variable {F : Fence} {n : Nat} {P : Program} {ops : Array Oper} {Q : Exit → Act → World → Prop} {md : Region.Mode} {S : World → Prop} {late : List Nat}

theorem yields_wpOpIn {i : Nat} {o : Oper} {v : Value} {a : Act} (hF : ∀ f, F.fn f) (hnd : ∀ c, o.op ≠ .defer c) (hi : ops[i]? = some o) (hy : YieldsIf P ops S o v a)
    {K : Act → World → Prop} {w : World} (hS : S w) (h : K (a.put o.dst v) w) : wpOpIn F n P ops Q i K a w := by
  unfold Go.wpOpIn
  simp only [hi]
  rcases hy with ⟨hw, hv⟩ | ⟨hw, rfl⟩
  · simp only [hw, if_true]
    unfold Oper.wpIn
    rw [Oper.semAt_plain F _ _ hnd, hv w hS]
    exact ⟨fun f _ => hF f, h⟩
  · simp only [hw, Bool.false_eq_true, if_false]; exact ⟨fun f _ => hF f, h⟩

theorem wpOpIn_putIf {j : Nat} {oi oj : Oper} {v : Value} (hF : ∀ f, F.fn f) (hnd : ∀ c, oj.op ≠ .defer c) (hj : ops[j]? = some oj) (hap : oi.apart ops oj = true)
    (hsi : ∀ cs b, oi.op ≠ .select cs b) (hsj : ∀ cs b, oj.op ≠ .select cs b)
    (hQ : ∀ c a w, Q (.panic c) (a.put oi.dst v) w → Q (.panic c) a w) {K : Act → World → Prop} {a : Act} {w : World}
    (hy : YieldsIf P ops S oi v a) (h : wpOpIn F n P ops Q j K (a.put oi.dst v) w) :
    wpOpIn F n P ops Q j (fun a' w' => YieldsIf P ops S oi v a' ∧ K (a'.put oi.dst v) w') a w := by
  obtain ⟨h1, h2, h3⟩ := Oper.apart_spec hap
  have keep : ∀ (a : Act), YieldsIf P ops S oi v a → ∀ u, YieldsIf P ops S oi v (a.put oj.dst u) := fun a hy u =>
    hy.of_same (execOp_put oi hsi a oj.dst u h3) (wanted_put oi a oj.dst u h3)
  have keepD : ∀ d, YieldsIf P ops S oi v { a with defers := d :: a.defers } := fun d => hy.of_same rfl rfl
  unfold wpOpIn at *
  simp only [hj] at *
  rw [wanted_put oj a oi.dst v h1] at h
  split
  · rename_i hw
    simp only [hw, if_true] at h
    unfold Oper.wpIn at *
    refine ⟨fun f _ => hF f, ?_⟩
    have h := h.2
    rw [Oper.semAt_plain F _ _ hnd, execOp_put oj hsj a oi.dst v h1] at h
    rw [Oper.semAt_plain F _ _ hnd]
    generalize (execOp a.eval oj).run P w = r at *
    cases r with
    | ok x w' =>
      cases x <;> simp only [Oper.uponIn] at h ⊢
      case value u => exact ⟨keep a hy u, by rw [← Act.put_comm a v u h2]; exact h⟩
      case skip => exact ⟨keep a hy _, by rw [← Act.put_comm a v undef h2]; exact h⟩
      case defer d =>
        refine ⟨keep _ (keepD d) _, ?_⟩
        rw [← Act.put_comm _ v undef h2, ← Act.put_defers]
        exact h
      case enter f args =>
        refine ⟨h.1, CallsIn.mono h.2 fun e w'' he => ?_⟩
        cases e with
        | returned u => exact ⟨keep a hy u, by rw [← Act.put_comm a v u h2]; exact he⟩
        | panicked c => exact hQ _ _ _ he
        | outgrown => exact he
      case row row args => exact ⟨h.1, RowsIn.mono h.2 fun u w'' he => ⟨keep a hy u, by rw [← Act.put_comm a v u h2]; exact he⟩⟩
      case round l f tmps assign body =>
        refine ⟨h.1, RoundIn.mono h.2 fun e w'' he => ?_⟩
        cases e with
        | returned u => exact ⟨keep a hy u, by rw [← Act.put_comm a v u h2]; exact he⟩
        | panicked c => exact hQ _ _ _ he
        | outgrown => exact he
    | halt x w' =>
      cases x <;> simp only [Oper.uponIn] at h ⊢
      case panic u => exact hQ _ _ _ h
  · rename_i hw
    simp only [hw] at h
    exact ⟨fun f _ => hF f, keep a hy _, by rw [← Act.put_comm a v undef h2]; exact h.2⟩

/-- Whatever order is picked from here on; behind each operation that is not late S holds. -/
def wpAnyR (F : Fence) (n : Nat) (P : Program) (md : Region.Mode) (ops : Array Oper) (Q : Exit → Act → World → Prop) (S : World → Prop) (late : List Nat) : Nat → Array Bool → Act → World → Prop
  | 0, listed, a, w => Region.ready md ops listed = [] ∧ Q .normal a w
  | fuel + 1, listed, a, w =>
    (Region.ready md ops listed = [] → Q .normal a w) ∧
    ∀ i ∈ Region.ready md ops listed, wpOpIn F n P ops Q i (fun a' w' => (late.contains i = false → S w') ∧ wpAnyR F n P md ops Q S late fuel (listed.setIfInBounds i true) a' w') a w

theorem wpAnyIn_of_R : ∀ (fuel : Nat) (listed : Array Bool) (a : Act) (w : World), wpAnyR F n P md ops Q S late fuel listed a w → wpAnyIn F n P md ops Q fuel listed a w
  | 0, _, _, _, h => h
  | fuel + 1, _, _, _, h => ⟨h.1, fun i hi => wpOpIn_mono (fun a' w' h' => wpAnyIn_of_R fuel _ a' w' h'.2) (h.2 i hi)⟩

theorem wpAnyR_first {i : Nat} {oi : Oper} {v : Value} (hF : ∀ f, F.fn f) (hnd : ∀ (j : Nat) (o : Oper) c, ops[j]? = some o → o.op ≠ .defer c) (hi : ops[i]? = some oi) (hsel : ∀ (j : Nat) (o : Oper) cs b, ops[j]? = some o → o.op ≠ .select cs b)
    (hQ : ∀ c a w, Q (.panic c) (a.put oi.dst v) w → Q (.panic c) a w) (hlate : lateWaits md ops late i = true) :
    ∀ (fuel : Nat) (listed : Array Bool) (a : Act) (w : World),
      (∀ j oj, ops[j]? = some oj → j ≠ i → listed.getD j true = false → (∀ e ∈ oj.after, Region.binds md e = true → e.on ≠ i) → oi.apart ops oj = true) →
      i ∈ Region.ready md ops listed → YieldsIf P ops S oi v a → S w →
      wpAnyR F n P md ops Q S late fuel (listed.setIfInBounds i true) (a.put oi.dst v) w → wpAnyR F n P md ops Q S late (fuel + 1) listed a w := by
  intro fuel
  induction fuel with
  | zero =>
    intro listed a w _ hr hy hS H
    refine ⟨fun h => (by rw [h] at hr; cases hr), fun j hj => ?_⟩
    by_cases hji : j = i
    · subst hji; exact yields_wpOpIn hF (fun c => hnd j oi c hi) hi hy hS ⟨fun _ => hS, H⟩
    · have := ready_mono hj hji
      rw [H.1] at this
      cases this
  | succ fuel ih =>
    intro listed a w hfree hr hy hS H
    refine ⟨fun h => (by rw [h] at hr; cases hr), fun j hj => ?_⟩
    by_cases hji : j = i
    · subst hji; exact yields_wpOpIn hF (fun c => hnd j oi c hi) hi hy hS ⟨fun _ => hS, H⟩
    · have h1 := H.2 j (ready_mono hj hji)
      obtain ⟨hjun, oj, hoj, hall⟩ := mem_ready.1 hj
      have hnot : ∀ e ∈ oj.after, Region.binds md e = true → e.on ≠ i := fun e he hb heq => by
        have h1 := hall e he hb
        have h0 := (mem_ready.1 hr).1
        rw [heq] at h1
        rcases Nat.lt_or_ge i listed.size with h' | h'
        · simp [h'] at h0 h1; rw [h0] at h1; cases h1
        · simp [Array.getElem?_eq_none h'] at h1
      have hnl : late.contains j = false := by
        cases hc : late.contains j with
        | false => rfl
        | true =>
          have hm : j ∈ late := by simpa using hc
          have := List.all_eq_true.1 hlate j hm
          rw [hoj] at this
          simp only at this
          obtain ⟨e, he, hb⟩ := Array.any_eq_true'.1 this
          simp only [Bool.and_eq_true, beq_iff_eq] at hb
          exact absurd hb.2 (hnot e he hb.1)
      have h2 := wpOpIn_putIf hF (fun c => hnd j oj c hoj) hoj (hfree j oj hoj hji hjun hnot) (fun cs b => hsel i oi cs b hi) (fun cs b => hsel j oj cs b hoj) hQ hy h1
      have hfree' : ∀ k ok, ops[k]? = some ok → k ≠ i → (listed.setIfInBounds j true).getD k true = false →
          (∀ e ∈ ok.after, Region.binds md e = true → e.on ≠ i) → oi.apart ops ok = true := fun k ok hk hki hun hno => by
        refine hfree k ok hk hki ?_ hno
        by_cases hjk : j = k
        · subst hjk; exact hjun
        · rw [getD_set_ne true hjk] at hun; exact hun
      refine wpOpIn_mono (fun a' w' h3 => ⟨h3.2.1, ih (listed.setIfInBounds j true) a' w' hfree' (ready_mono hr (Ne.symm hji)) h3.1 (h3.2.1 hnl) ?_⟩) h2
      rw [Array.setIfInBounds_comm _ _ hji]
      exact h3.2.2

/-- no operation of these is a defer -/
def noDefer (ops : Array Oper) : Bool := ops.all fun o => match o.op with | .defer _ => false | _ => true
theorem noDefer_spec {ops : Array Oper} (h : noDefer ops = true) (j : Nat) (o : Oper) (c : Call) (hj : ops[j]? = some o) : o.op ≠ .defer c := fun e => by
  have := Array.all_eq_true_iff_forall_mem.1 h o (Array.mem_of_getElem? hj)
  rw [e] at this
  cases this

/-- Take number i first. -/
theorem hoist_takeR {i : Nat} {oi : Oper} {v : Value} {fuel : Nat} {listed : Array Bool} {a : Act} {w : World} (hF : ∀ f, F.fn f) (hnd : noDefer ops = true) (hi : ops[i]? = some oi)
    (hs : Region.noSelect ops = true) (hf : Region.free md ops listed i = true) (hr : (Region.ready md ops listed).contains i = true) (hl : lateWaits md ops late i = true)
    (hQ : ∀ c a w, Q (.panic c) (a.put oi.dst v) w → Q (.panic c) a w) (hS : S w) (hy : YieldsIf P ops S oi v a)
    (h : wpAnyR F n P md ops Q S late fuel (listed.setIfInBounds i true) (a.put oi.dst v) w) : wpAnyR F n P md ops Q S late (fuel + 1) listed a w :=
  wpAnyR_first hF (fun j o c hj => noDefer_spec hnd j o c hj) hi (Region.noSelect_spec hs) hQ hl fuel listed a w (Region.free_spec hi hf) (by simpa using hr) hy hS h

/-- Number i alone may come up. -/
theorem hoist_oneR {i : Nat} {oi : Oper} {fuel : Nat} {listed : Array Bool} {a : Act} {w : World} (hi : ops[i]? = some oi) (hr : Region.ready md ops listed = [i])
    (h : ∀ K : Act → World → Prop, (∀ a' w', (late.contains i = false → S w') → wpAnyR F n P md ops Q S late fuel (listed.setIfInBounds i true) a' w' → K a' w') → wpListIn F n P ops (Exit.then K Q) [oi] a w) :
    wpAnyR F n P md ops Q S late (fuel + 1) listed a w := by
  refine ⟨fun h0 => (by rw [hr] at h0; cases h0), fun j hj => ?_⟩
  rw [hr] at hj
  have hji : j = i := by simpa using hj
  subst hji
  have h1 := h (fun a' w' => (late.contains j = false → S w') ∧ wpAnyR F n P md ops Q S late fuel (listed.setIfInBounds j true) a' w') (fun a' w' x y => ⟨x, y⟩)
  unfold wpOpIn
  rw [hi]
  unfold wpListIn at h1
  simp only at h1 ⊢
  split
  · rename_i hw
    rw [if_pos hw] at h1
    unfold Oper.wpIn at h1 ⊢
    refine ⟨h1.1, ?_⟩
    have h1 := h1.2
    generalize (oi.semAt F.round a.eval).run P w = r at h1 ⊢
    cases r with
    | ok x w' =>
      cases x <;> simp only [Oper.uponIn] at h1 ⊢
      case value u => exact h1
      case skip => exact h1
      case defer d => exact h1
      case enter f args => exact ⟨h1.1, CallsIn.mono h1.2 fun e w'' he => by cases e <;> exact he⟩
      case row row args => exact ⟨h1.1, RowsIn.mono h1.2 fun u w'' he => he⟩
      case round l f tmps assign body => exact ⟨h1.1, RoundIn.mono h1.2 fun e w'' he => by cases e <;> exact he⟩
    | halt x w' => cases x <;> simp only [Oper.uponIn] at h1 ⊢; exact h1
  · rename_i hw
    rw [if_neg hw] at h1
    exact h1

theorem hoist_doneR {fuel : Nat} {listed : Array Bool} {a : Act} {w : World} (hr : Region.ready md ops listed = []) (h : Q .normal a w) : wpAnyR F n P md ops Q S late fuel listed a w := by
  cases fuel with
  | zero => exact ⟨hr, h⟩
  | succ k => exact ⟨fun _ => h, fun i hi => (by rw [hr] at hi; cases hi)⟩

theorem region_hoistR {id : Nat} {a : Act} {w : World} (hm : P.follows .mixedOrders = true) (S : World → Prop) (late : List Nat)
    (h : wpAnyR F n P .any ops Q S late ops.size (Array.replicate ops.size false) a w.drew) : (Code.region id ops true).wpIn F n P Q a w :=
  wpIn_region_any hm (wpAnyIn_of_R _ _ _ _ h)

/-- a region that cannot but go on -/
def onlyN (K : Act → World → Prop) : Exit → Act → World → Prop
  | .normal, a, w => K a w
  | _, _, _ => False
theorem onlyN_mk {K : Act → World → Prop} {a : Act} {w : World} (h : K a w) : onlyN K .normal a w := h
theorem wpIn_onlyN {c : Code} {a : Act} {w : World} (h : c.wpIn F n P (onlyN fun a w => Q .normal a w) a w) : c.wpIn F n P Q a w :=
  wpIn_mono h fun e a w h => by cases e <;> first | exact h | exact h.elim
end
end Go.Ink

/- Layer 4, the law RelationMeanwhile: what is known between its steps; the plain law of its places. -/
namespace Go.Proofs
open Go.RowKit Go.Ink
set_option linter.unusedVariables false
set_option linter.unusedSimpArgs false

/-- between the steps of RelationMeanwhile -/
structure MwSt (w : World) (b7 b10 bT bR B n P K Bf : Nat) (v2 : Value) (s : RelS) (F : Nat → Prop) (vL : Value) (svs : List Value) (X : World) : Prop where
  both : Both B n P K s F Bf vL svs X
  h7 : BoxAt X b7 22 v2
  h10 : ∃ v, BoxAt X b10 4 (.bool v)
  hT : BoxAt X bT 24 (.pointer (some ⟨B, 0, none⟩))
  hR : BoxAt X bR 25 (.pointer (some ⟨Bf, 0, none⟩))
  out : ∀ b, (b < w.heap.size ∨ b = b7 ∨ b = b10 ∨ b = bT ∨ b = bR) → Outside s F b
  keep : Keep (fun b => b < w.heap.size) w X
theorem MwSt.on {w : World} {b7 b10 bT bR B n P K Bf : Nat} {v2 : Value} {s s' : RelS} {F F' : Nat → Prop} {vL vL' : Value} {svs svs' : List Value} {X Y : World} (h : MwSt w b7 b10 bT bR B n P K Bf v2 s F vL svs X) (hb : Both B n P K s' F' Bf vL' svs' Y) (hK : Keep (Outside s F) X Y) (ho : BothOn s F X.heap.size s' F') : MwSt w b7 b10 bT bR B n P K Bf v2 s' F' vL' svs' Y := by
  obtain ⟨v, h10⟩ := h.h10
  have hz := h.keep.size
  refine ⟨hb, h.h7.keep hK (h.out _ (by simp)), ⟨v, h10.keep hK (h.out _ (by simp))⟩, h.hT.keep hK (h.out _ (by simp)), h.hR.keep hK (h.out _ (by simp)), fun b hb' => ho.out ?_ (h.out b hb'), h.keep.trans (hK.mono fun b _ hb' => h.out b (.inl hb'))⟩
  rcases hb' with h1 | h1 | h1 | h1 | h1
  · omega
  · rw [h1]; exact h.h7.lt
  · rw [h1]; exact h10.lt
  · rw [h1]; exact h.hT.lt
  · rw [h1]; exact h.hR.lt
/-- nothing of theirs was touched -/
theorem MwSt.stay {w : World} {b7 b10 bT bR B n P K Bf : Nat} {v2 : Value} {s : RelS} {F : Nat → Prop} {vL : Value} {svs : List Value} {X Y : World} {C : Nat → Prop} (h : MwSt w b7 b10 bT bR B n P K Bf v2 s F vL svs X) (hK : Keep C X Y) (hC : ∀ b, b < X.heap.size → (¬ Outside s F b ∨ b < w.heap.size ∨ b = b7 ∨ b = b10 ∨ b = bT ∨ b = bR) → C b) : MwSt w b7 b10 bT bR B n P K Bf v2 s F vL svs Y := by
  obtain ⟨v, h10⟩ := h.h10
  have hz := h.keep.size
  refine ⟨h.both.keep hK (fun b hb hl => hC b hl (.inl (fun ho => hb.elim (fun h1 => h1 ho.1) ho.2))), h.h7.keep hK (hC _ h.h7.lt (by simp)), ⟨v, h10.keep hK (hC _ h10.lt (by simp))⟩, h.hT.keep hK (hC _ h.hT.lt (by simp)), h.hR.keep hK (hC _ h.hR.lt (by simp)), h.out, h.keep.trans (hK.mono fun b hb hb' => hC b (by omega) (.inr (.inl hb')))⟩
/-- the program's relation has gone on by an iterator's step -/
theorem MwSt.same {w : World} {b7 b10 bT bR B n P K Bf : Nat} {v2 : Value} {s s' : RelS} {F : Nat → Prop} {vL : Value} {svs : List Value} {X Y : World} (h : MwSt w b7 b10 bT bR B n P K Bf v2 s F vL svs X) (hi : RelInv B n P K s' Y) (hs : RelSame s X s' Y) : MwSt w b7 b10 bT bR B n P K Bf v2 s' F vL svs Y := by
  have hK : Keep (fun b => s.tag b = none) X Y := hs.keep.mono fun b hb h => ⟨h, hb⟩
  refine h.on ⟨hi, ?_, fun b hF => hs.free (h.both.lt b hF) (h.both.apart b hF), fun b hF => Nat.lt_of_lt_of_le (h.both.lt b hF) hK.size⟩ (hK.mono fun b _ ho => ho.1) ⟨⟨⟨[], by simp [hs.same]⟩, hs.le, hs.new, hs.sub⟩, fun b hF => .inl hF⟩
  rw [hs.same]
  exact h.both.ref.keep hK (fun b hF _ => h.both.apart b hF)

/-- an iterator may be asked for more -/
theorem iterG_U {Γ : Type} {P : Program} {g : Nat} {lb : Array Value} {Sy : IterSys Γ} {N : Γ → Nat} {A : Γ → Nat → Γ → Nat → World → Array Value → Prop} {V : World → Prop} {U U' : Nat → Prop} (h : IterG P g lb Sy N A V U) (hU : ∀ b, U b → U' b) : IterG P g lb Sy N A V U' :=
  fun l J Jx W γ0 h1 h2 h3 h4 h5 h6 h7 h8 => h l J Jx W γ0 h1 h2 h3 (fun b hb => h4 b (hU b hb)) h5 h6 h7 h8

/-- what a round of RelationMeanwhile knows (Wr: where the range began; Q: what stays from there on) -/
structure MwRd (Wr : World) (Q : Nat → Prop) (b20 n Bf : Nat) (base lm : Nat) (s0 : RelS) (k : Nat) (s : RelS) (X : World) : Prop where
  ref : ∃ F vL svs, RefOwn F X Bf n s.ts vL svs ∧ (∀ b, F b → s.tag b = none ∧ b < X.heap.size ∧ (b < Wr.heap.size ∨ Wr.heap.size + 2 ≤ b)) ∧ (∀ b, Q b → ¬ F b) ∧ ¬ F b20
  box : BoxAt X b20 3 (.int .i64 (k : Int))
  fr : s.tag b20 = none ∧ ∀ b, Q b → s.tag b = none
  keep : Keep Q Wr X
  len : s.ts.length ≤ base + min k lm
  pre : ∃ us, s.ts = s0.ts ++ us
theorem MwRd.on {Wr : World} {Q : Nat → Prop} {b20 n Bf base lm : Nat} {s0 s : RelS} {k : Nat} {X Y : World} (h : MwRd Wr Q b20 n Bf base lm s0 k s X) (hQ : ∀ b, Q b → b < Wr.heap.size) (hb : b20 < Wr.heap.size) (hK : Keep (fun b => b < Wr.heap.size ∨ Wr.heap.size + 2 ≤ b) X Y) : MwRd Wr Q b20 n Bf base lm s0 k s Y := by
  obtain ⟨F, vL, svs, r1, r2, r3, r4⟩ := h.ref
  exact ⟨⟨F, vL, svs, r1.keep hK (fun b hF _ => (r2 b hF).2.2), fun b hF => ⟨(r2 b hF).1, Nat.lt_of_lt_of_le (r2 b hF).2.1 hK.size, (r2 b hF).2.2⟩, r3, r4⟩, h.box.keep hK (.inl hb), h.fr, h.keep.trans (hK.mono fun b _ hq => .inl (hQ b hq)), h.len, h.pre⟩
theorem MwRd.it {B P K : Nat} {Wr : World} {Q : Nat → Prop} {b20 n Bf base lm : Nat} {s0 s s' : RelS} {k : Nat} {X Y : World} (h : MwRd Wr Q b20 n Bf base lm s0 k s X) (hQ : ∀ b, Q b → b < Wr.heap.size) (hs : RelIt B n P K s X s' Y) : MwRd Wr Q b20 n Bf base lm s0 k s' Y := by
  obtain ⟨F, vL, svs, r1, r2, r3, r4⟩ := h.ref
  have hn : ∀ b, b < X.heap.size → s.tag b = none → s'.tag b = none := (relSys B n P K).inew hs
  refine ⟨⟨F, vL, svs, by rw [hs.same]; exact r1.keep hs.keep (fun b hF _ => (r2 b hF).1), fun b hF => ⟨hn b (r2 b hF).2.1 (r2 b hF).1, Nat.lt_of_lt_of_le (r2 b hF).2.1 hs.keep.size, (r2 b hF).2.2⟩, r3, r4⟩, h.box.keep hs.keep h.fr.1, ⟨hn _ h.box.lt h.fr.1, fun b hq => hn b (Nat.lt_of_lt_of_le (hQ b hq) h.keep.size) (h.fr.2 b hq)⟩, h.keep.trans (hs.keep.mono fun b _ hq => h.fr.2 b hq), by rw [hs.same]; exact h.len, ?_⟩
  obtain ⟨us, hus⟩ := h.pre
  exact ⟨us, by rw [hs.same]; exact hus⟩

theorem match_all {n : Nat} {ts : List (List Int)} {hi : Int} (h : (ts.length : Int) ≤ hi) : matchD n ts [] [] 0 hi = List.range ts.length := by
  unfold matchD
  rw [if_pos (by rfl)]
  refine List.filter_eq_self.2 fun i hi' => ?_
  rw [List.mem_range] at hi'
  unfold hitAt keyedD
  simp
  omega
theorem nil_ints (w : World) : IntsIn 0 w (.slice none 0 0) [] := ⟨none, 0, rfl, by simp, ⟨Nat.le_refl _, by simp [maxLen]⟩, fun k x hk => by simp at hk⟩
end Go.Proofs

/- Plain law: unlike elements of a list, how many there are, how often each comes. No program is named here. -/
namespace Go.Proofs
set_option linter.unusedVariables false
set_option linter.unusedSimpArgs false

variable {α : Type} [DecidableEq α]

/-- the elements of a list, each once, in the order in which they come first -/
def dd (L : List α) : List α := L.foldl (fun acc x => if x ∈ acc then acc else acc ++ [x]) []
theorem dd_snoc (L : List α) (x : α) : dd (L ++ [x]) = if x ∈ dd L then dd L else dd L ++ [x] := by
  unfold dd; rw [List.foldl_append]; rfl
omit [DecidableEq α] in
theorem list_snoc {p : List α → Prop} (h0 : p []) (h1 : ∀ L x, p L → p (L ++ [x])) : ∀ L, p L := by
  have h : ∀ R : List α, p R.reverse := fun R => by
    induction R with
    | nil => exact h0
    | cons x R ih => rw [List.reverse_cons]; exact h1 _ _ ih
  intro L
  have := h L.reverse
  rwa [List.reverse_reverse] at this
theorem mem_dd (L : List α) : ∀ x, x ∈ dd L ↔ x ∈ L := by
  refine list_snoc (p := fun L => ∀ x, x ∈ dd L ↔ x ∈ L) (by simp [dd]) (fun L y ih x => ?_) L
  rw [dd_snoc]
  split
  · rename_i h
    rw [ih, List.mem_append, List.mem_singleton]
    exact ⟨.inl, fun h1 => h1.elim id (fun e => by rw [e, ← ih]; exact h)⟩
  · rw [List.mem_append, List.mem_append, ih]
theorem nodup_dd (L : List α) : (dd L).Nodup := by
  refine list_snoc (p := fun L => (dd L).Nodup) (by simp [dd]) (fun L y ih => ?_) L
  rw [dd_snoc]
  split
  · exact ih
  · rename_i h
    rw [List.nodup_append]
    refine ⟨ih, by simp, fun a ha b hb e => ?_⟩
    rw [List.mem_singleton] at hb
    subst hb; subst e
    exact h ha
theorem dd_len (L : List α) : (dd L).length ≤ L.length := by
  refine list_snoc (p := fun L => (dd L).length ≤ L.length) (by simp [dd]) (fun L y ih => ?_) L
  rw [dd_snoc]
  split <;> simp <;> omega
theorem nodup_le : ∀ {M L : List α}, M.Nodup → (∀ x, x ∈ M → x ∈ L) → M.length ≤ L.length
  | [], _, _, _ => by simp
  | x :: M, L, hn, hs => by
    rw [List.nodup_cons] at hn
    have hx := hs x (by simp)
    have hl : (L.erase x).length + 1 = L.length := by
      rw [List.length_erase_of_mem hx]
      have := List.length_pos_of_mem hx
      omega
    have := nodup_le (M := M) (L := L.erase x) hn.2 (fun y hy => by
      have hne : y ≠ x := fun e => hn.1 (by rw [← e]; exact hy)
      exact (List.mem_erase_of_ne hne).2 (hs y (by simp [hy])))
    simp only [List.length_cons]
    omega
theorem dd_unique {M L : List α} (hn : M.Nodup) (hm : ∀ x, x ∈ M ↔ x ∈ L) : M.length = (dd L).length :=
  Nat.le_antisymm (nodup_le hn (fun x hx => (mem_dd L x).2 ((hm x).1 hx))) (nodup_le (nodup_dd L) (fun x hx => (hm x).2 ((mem_dd L x).1 hx)))
theorem dd_map_le {β : Type} [DecidableEq β] (L : List α) (f : α → β) : (dd (L.map f)).length ≤ (dd L).length := by
  have := nodup_le (M := dd (L.map f)) (L := (dd L).map f) (nodup_dd _) (fun y hy => by
    obtain ⟨x, hx, rfl⟩ := List.mem_map.1 ((mem_dd _ y).1 hy)
    exact List.mem_map.2 ⟨x, (mem_dd L x).2 hx, rfl⟩)
  simpa using this
theorem dd_pos {L : List α} (h : 0 < L.length) : 0 < (dd L).length := by
  cases L with
  | nil => simp at h
  | cons x L => exact List.length_pos_of_mem ((mem_dd (x :: L) x).2 (by simp))
theorem dd_take {L : List α} {k : Nat} {x : α} (h : L[k]? = some x) : dd (L.take (k + 1)) = if x ∈ L.take k then dd (L.take k) else dd (L.take k) ++ [x] := by
  rw [List.take_add_one, h, Option.toList_some, dd_snoc]
  by_cases hx : x ∈ L.take k
  · rw [if_pos ((mem_dd _ _).2 hx), if_pos hx]
  · rw [if_neg (fun h => hx ((mem_dd _ _).1 h)), if_neg hx]

/-- how many elements of L stand in its first k places, too -/
def seenN (L : List α) (k : Nat) : Nat := (L.filter fun y => decide (y ∈ L.take k)).length
omit [DecidableEq α] in
theorem filter_or (L : List α) (p q : α → Bool) (h : ∀ y, p y = true → q y = false) : (L.filter fun y => p y || q y).length = (L.filter p).length + (L.filter q).length := by
  induction L with
  | nil => rfl
  | cons x L ih =>
    simp only [List.filter_cons]
    cases hp : p x with
    | true => rw [h x hp]; simp [ih]; omega
    | false => cases hq : q x <;> simp [ih] <;> omega
theorem seen_zero (L : List α) : seenN L 0 = 0 := by simp [seenN]
theorem seen_all (L : List α) : seenN L L.length = L.length := by
  unfold seenN
  rw [List.take_length, List.filter_eq_self.2 (fun y hy => by simpa using hy)]
theorem seen_old {L : List α} {k : Nat} {x : α} (h : L[k]? = some x) (hx : x ∈ L.take k) : seenN L (k + 1) = seenN L k := by
  unfold seenN
  congr 1
  refine List.filter_congr fun y _ => ?_
  rw [List.take_add_one, h, Option.toList_some]
  congr 1
  rw [List.mem_append, List.mem_singleton]
  exact propext ⟨fun h1 => h1.elim id (fun e => by rw [e]; exact hx), .inl⟩
theorem seen_new {L : List α} {k : Nat} {x : α} (h : L[k]? = some x) (hx : x ∉ L.take k) : seenN L (k + 1) = seenN L k + (L.filter fun y => decide (y = x)).length := by
  unfold seenN
  rw [← filter_or L _ _ (fun y hy => by
    simp only [decide_eq_true_eq, decide_eq_false_iff_not] at hy ⊢
    intro e; rw [e] at hy; exact hx hy)]
  congr 1
  refine List.filter_congr fun y _ => ?_
  rw [List.take_add_one, h, Option.toList_some]
  simp [List.mem_append]
theorem seen_le (L : List α) (k : Nat) : seenN L k ≤ L.length := List.length_filter_le _ _

/-- counting by places -/
theorem count_places (L : List α) (x : α) : ((List.range L.length).filter fun i => decide (L[i]? = some x)).length = (L.filter fun y => decide (y = x)).length := by
  refine list_snoc (p := fun L => ((List.range L.length).filter fun i => decide (L[i]? = some x)).length = (L.filter fun y => decide (y = x)).length) (by simp) (fun L y ih => ?_) L
  rw [List.length_append, List.length_singleton, List.range_succ, List.filter_append, List.filter_append, List.length_append, List.length_append, ← ih]
  congr 1
  · congr 1
    refine List.filter_congr fun i hi => ?_
    rw [List.mem_range] at hi
    rw [List.getElem?_append_left hi]
  · simp only [List.filter_cons, List.filter_nil]
    by_cases h : y = x <;> simp [h]
end Go.Proofs
