/- An iterator's contract where what is yielded lies in new memory, and what the iterator leans on grows by the body (a ghost state says how). The law of a range over it, outside every round. No program is named here. -/
import Derived.Test.YtbaemcmagkmjiaaIter
import Derived.Test.YtbaemcmagkmjiaaProg
import Derived.Test.YtbaemcmagkmjiaaRelR
namespace Go.Ink
open Go.RowKit
set_option linter.unusedVariables false
set_option linter.unusedSimpArgs false

/-- What an iterator and the bodies of the ranges over it share. -/
structure IterSys (Γ : Type) where
  inv : Γ → World → Prop
  free : Γ → Nat → Prop
  istep : Γ → World → Γ → World → Prop
  bstep : Γ → Nat → Γ → Prop
  ifree : ∀ {γ X γ' Y}, istep γ X γ' Y → Keep (free γ) X Y
  inew : ∀ {γ X γ' Y}, istep γ X γ' Y → ∀ b, b < X.heap.size → free γ b → free γ' b
  bnew : ∀ {γ n γ'}, bstep γ n γ' → ∀ b, b < n → free γ b → free γ' b
  bmono : ∀ {γ n n0 γ'}, n0 ≤ n → bstep γ n γ' → bstep γ n0 γ'
  invk : ∀ {γ X Y}, inv γ X → Keep (fun b => ¬ free γ b) X Y → inv γ Y

variable {Γ : Type}
def RoundEndG (Sy : IterSys Γ) (V : World → Prop) (J Jx : Nat → Γ → World → Prop) (k : Nat) (γ : Γ) (X : World) (e : Ending) (Y : World) : Prop :=
  ∃ γ', Sy.inv γ' Y ∧ V Y ∧ Sy.bstep γ X.heap.size γ' ∧ X.heap.size ≤ Y.heap.size ∧ ((e = .returned (.bool true) ∧ J (k + 1) γ' Y) ∨ (e = .returned (.bool false) ∧ Jx k γ' Y))

/-- the contract: N γ0 rounds, A γ0 k γ n X args: what the k-th yield is called with; n: the heap's size where the iterator went on -/
def IterG (P : Program) (g : Nat) (lb : Array Value) (Sy : IterSys Γ) (N : Γ → Nat) (A : Γ → Nat → Γ → Nat → World → Array Value → Prop) (V : World → Prop) (U : Nat → Prop) : Prop :=
  ∀ (l : Nat) (J Jx : Nat → Γ → World → Prop) (W : World) (γ0 : Γ), l < W.heap.size → Sy.inv γ0 W → V W → (∀ b, U b → Sy.free γ0 b) →
    (∀ k γ X γ' Y, J k γ X → Sy.istep γ X γ' Y → J k γ' Y) →
    (∀ k γ X γ' Y, Jx k γ X → Sy.istep γ X γ' Y → Jx k γ' Y) →
    (∀ k γ X0 X args, k < N γ0 → J k γ X0 → Sy.istep γ X0 γ X → Sy.inv γ X → V X → W.heap.size ≤ X0.heap.size → A γ0 k γ X0.heap.size X args → YieldAt Fence.wide 0 P l args X (RoundEndG Sy V J Jx k γ X)) →
    J 0 γ0 W →
    Calls P g (#[.func (.yield l) #[] #[]] ++ lb) W fun e W' => (∃ v, e = .returned v) ∧ W.heap.size ≤ W'.heap.size ∧
      ∃ γ', Sy.inv γ' W' ∧ V W' ∧ (J (N γ0) γ' W' ∨ ∃ k, k < N γ0 ∧ Jx k γ' W')

/-- How a body that began in Y0 may end (n: where the round began; l: the loop's record; B: the heap's size where the loop began). -/
def bodyEndG (Sy : IterSys Γ) (B l n : Nat) (V : World → Prop) (γ : Γ) (Y0 Y : World) (R : Γ → Prop) : Prop :=
  ∃ γ', Sy.inv γ' Y ∧ V Y ∧ Sy.bstep γ n γ' ∧ Keep (fun b => B ≤ b ∧ b ≤ l) Y0 Y ∧ R γ'
def bodyQG (Sy : IterSys Γ) (B l n : Nat) (V : World → Prop) (I : Nat → Γ → World → Prop) (Ix : Code → Nat → Γ → World → Prop) (k : Nat) (γ : Γ) (Y0 : World) : Exit → Act → World → Prop
  | .normal, _, Y => bodyEndG Sy B l n V γ Y0 Y fun γ' => I (k + 1) γ' Y
  | .ret, _, Y => bodyEndG Sy B l n V γ Y0 Y fun γ' => Ix .ret k γ' Y
  | .exit id, _, Y => bodyEndG Sy B l n V γ Y0 Y fun γ' => Ix (.exit id) k γ' Y
  | .goto t, _, Y => bodyEndG Sy B l n V γ Y0 Y fun γ' => Ix (.goto t) k γ' Y
  | .panic _, _, _ => False
  | .outgrown, _, _ => False

/-- What is asked behind the assignment to the loop's variables: the body. -/
def bodyAtG (Sy : IterSys Γ) (P : Program) (l B : Nat) (body : Code) (V : World → Prop) (I : Nat → Γ → World → Prop) (Ix : Code → Nat → Γ → World → Prop) (k : Nat) (γ : Γ) (X : World) (a₁ : Act) (X₁ : World) : Prop :=
  Keep (fun b => b < X.heap.size) X X₁ ∧
    ∀ Y, Keep (fun b => b ≠ l) X₁ Y → Y.heap.size = X₁.heap.size → (∃ r, Y.heap[l]? = some (.loop r)) → body.wpIn (inR l) 0 P (bodyQG Sy B l X.heap.size V I Ix k γ Y) a₁ Y

theorem round_ofG {P : Program} {fn : FuncId} {l B : Nat} {rec : LoopState → Option Code → Loop} {tmps0 : Array Value} {ps : Array Tmp} {assign body : Code} {df : Nat} (Sy : IterSys Γ)
    (hrec : rec = fun st pe => { state := st, pending := pe, fn := fn, tmps := tmps0, params := ps, assign := assign, body := body, defers := df })
    (hlB : B ≤ l) {args : Array Value} (hps : args.size = ps.size) {V : World → Prop} (hVst : ∀ X Y, V X → Keep (fun b => b < B) X Y → V Y)
    {I : Nat → Γ → World → Prop} {Ix : Code → Nat → Γ → World → Prop}
    (hI : ∀ k γ X Y, I k γ X → Keep (fun b => b ≠ l) X Y → I k γ Y) (hIx : ∀ c k γ X Y, Ix c k γ X → Keep (fun b => b ≠ l) X Y → Ix c k γ Y)
    (X : World) (k : Nat) (γ : Γ) (hfl : Sy.free γ l) (hl : X.heap[l]? = some (.loop (rec .ready none)))
    (hround : assign.wpIn (inR l) 0 P (Exit.then (bodyAtG Sy P l B body V I Ix k γ X) (fun _ _ _ => False)) { tmps := (ps.zip args).foldl (fun t (p, v) => t.setIfInBounds p v) tmps0, defers := [] } X) :
    YieldAt Fence.wide 0 P l args X (RoundEndG Sy V
      (fun k γ W => I k γ W ∧ Sy.free γ l ∧ W.heap[l]? = some (.loop (rec .ready none)))
      (fun k γ W => ∃ c, Ix c k γ W ∧ Sy.free γ l ∧ W.heap[l]? = some (.loop (rec .done (some c)))) k γ X) := by
  have hy := run_yield (P := P) (args := args) hl (by rw [hrec]; exact hps)
  rw [hrec] at hy
  have hllt := heap_lt hl
  refine ⟨fn, _, assign, body, hy, roundIn_of_wpIn (F := Fence.wide) trivial (wpIn_mono hround ?_)⟩
  intro e a₁ X₁ he
  cases e with
  | normal =>
    obtain ⟨hk1, hb⟩ := he
    have hl1' : X₁.heap[l]? = some (.loop (rec .ready none)) := hk1.heap hl hllt
    refine ⟨_, run_beginRound hl1' (by rw [hrec]), ?_⟩
    have hl2 : (X₁.putObj l (.loop { rec .ready none with state := .busy })).heap[l]? = some (.loop { rec .ready none with state := .busy }) := World.putObj_heap_same (heap_lt hl1')
    have hkY : Keep (fun b => b ≠ l) X₁ (X₁.putObj l (.loop { rec .ready none with state := .busy })) := Keep.putObj _ _ _ (by simp)
    refine wpIn_mono (hb _ hkY (by simp) ⟨_, hl2⟩) ?_
    generalize hY0 : X₁.putObj l (.loop { rec .ready none with state := .busy }) = Y0 at hl2 hkY
    clear hY0 hb
    have fin : ∀ (jump : Option Code) (Y : World) (R : Γ → Prop), bodyEndG Sy B l X.heap.size V γ Y0 Y R →
        ∃ Y', (Instr.endRound l jump).run P Y = .ok (.bool jump.isNone) Y' ∧ Y'.heap[l]? = some (.loop (rec (if jump.isNone then .ready else .done) jump)) ∧ Keep (fun b => b ≠ l) Y Y' ∧
        ∃ γ', Sy.inv γ' Y' ∧ V Y' ∧ Sy.bstep γ X.heap.size γ' ∧ X.heap.size ≤ Y'.heap.size ∧ Sy.free γ' l ∧ R γ' := by
      rintro jump Y R ⟨γ', hinv, hV, hbs, hK, hR⟩
      have hl3 : Y.heap[l]? = some (.loop { rec .ready none with state := .busy }) := hK.heap hl2 ⟨hlB, Nat.le_refl _⟩
      have := run_endRound (P := P) jump hl3
      have hfl' := Sy.bnew hbs l hllt hfl
      refine ⟨_, this, ?_, Keep.putObj _ _ _ (by simp), γ', Sy.invk hinv (Keep.putObj _ _ _ (by simpa using hfl')), hVst _ _ hV (Keep.putObj _ _ _ (by simp; omega)), hbs, ?_, hfl', hR⟩
      · rw [World.putObj_heap_same (heap_lt hl3)]; subst hrec; rfl
      · have h1 := hk1.size
        have h2 := hkY.size
        have h3 := hK.size
        simp; omega
    rintro e a3 Y hp
    cases e with
    | normal =>
      obtain ⟨Y', hr, hl', hKl, γ', hinv, hV, hbs, hz, hf, hR⟩ := fin none Y _ hp
      exact ⟨_, _, hr, γ', hinv, hV, hbs, hz, .inl ⟨rfl, hI _ _ _ _ hR hKl, hf, hl'⟩⟩
    | ret =>
      obtain ⟨Y', hr, hl', hKl, γ', hinv, hV, hbs, hz, hf, hR⟩ := fin (some .ret) Y _ hp
      exact ⟨_, _, hr, γ', hinv, hV, hbs, hz, .inr ⟨rfl, .ret, hIx _ _ _ _ _ hR hKl, hf, hl'⟩⟩
    | exit id =>
      obtain ⟨Y', hr, hl', hKl, γ', hinv, hV, hbs, hz, hf, hR⟩ := fin (some (.exit id)) Y _ hp
      exact ⟨_, _, hr, γ', hinv, hV, hbs, hz, .inr ⟨rfl, .exit id, hIx _ _ _ _ _ hR hKl, hf, hl'⟩⟩
    | goto t =>
      obtain ⟨Y', hr, hl', hKl, γ', hinv, hV, hbs, hz, hf, hR⟩ := fin (some (.goto t)) Y _ hp
      exact ⟨_, _, hr, γ', hinv, hV, hbs, hz, .inr ⟨rfl, .goto t, hIx _ _ _ _ _ hR hKl, hf, hl'⟩⟩
    | panic ch => exact hp.elim
    | outgrown => exact hp.elim
  | ret => exact he.elim
  | exit id => exact he.elim
  | goto t => exact he.elim
  | panic c => exact he.elim
  | outgrown => exact he.elim

/-- A RANGE OVER SUCH AN ITERATOR, OUTSIDE EVERY ROUND. -/
theorem range_outerG {P : Program} {g : Operand} {ps : Array Tmp} {assign body : Code} {Q : Exit → Act → World → Prop} {a : Act} {w : World} (Sy : IterSys Γ) (γ0 : Γ)
    {gf : Nat} {lb : Array Value} (hg : a.eval g = .func (.func gf) #[] lb) (eg : ∀ args w, (callFunc gf args).run P w = .ok (.enter gf args) w)
    {N : Γ → Nat} {A : Γ → Nat → Γ → Nat → World → Array Value → Prop} {V : World → Prop} {U : Nat → Prop} (hit : IterG P gf lb Sy N A V U) (hU : ∀ b, U b → Sy.free γ0 b) (hps : ∀ γ0 k γ n X args, A γ0 k γ n X args → args.size = ps.size)
    (hinv0 : Sy.inv γ0 w) (hfree : ∀ b, w.heap.size ≤ b → Sy.free γ0 b) (hV0 : V w) (hVst : ∀ X Y, V X → Keep (fun b => b < w.heap.size) X Y → V Y)
    (I : Nat → Γ → World → Prop) (Ix : Code → Nat → Γ → World → Prop)
    (hI : ∀ k γ X Y, I k γ X → Keep (fun b => b < w.heap.size ∨ w.heap.size + 2 ≤ b) X Y → I k γ Y) (hIx : ∀ c k γ X Y, Ix c k γ X → Keep (fun b => b < w.heap.size ∨ w.heap.size + 2 ≤ b) X Y → Ix c k γ Y)
    (hIs : ∀ k γ X γ' Y, I k γ X → Sy.istep γ X γ' Y → I k γ' Y) (hIxs : ∀ c k γ X γ' Y, Ix c k γ X → Sy.istep γ X γ' Y → Ix c k γ' Y)
    (h0 : I 0 γ0 w)
    (hround : ∀ l k γ X0 X args, w.heap.size ≤ l → l < X0.heap.size → (Sy.free γ l ∧ Sy.free γ w.heap.size ∧ l = w.heap.size + 1) → k < N γ0 → I k γ X0 → Sy.istep γ X0 γ X → Sy.inv γ X → V X → w.heap.size + 2 ≤ X0.heap.size → A γ0 k γ X0.heap.size X args → assign.wpIn (inR l) 0 P (Exit.then (bodyAtG Sy P l w.heap.size body V I Ix k γ X) (fun _ _ _ => False)) { tmps := (ps.zip args).foldl (fun t (p, v) => t.setIfInBounds p v) a.tmps, defers := [] } X)
    (hdone : ∀ D γ W, (w.heap.size ≤ D ∧ D ≤ w.heap.size) → Sy.free γ D → W.heap[D]? = some (.deferred (some [])) → w.heap.size ≤ W.heap.size → I (N γ0) γ W → Sy.inv γ W → V W → Q .normal { a with defers := { target := .collected D, args := #[] } :: a.defers } W)
    (hstop : ∀ D c k γ W, (w.heap.size ≤ D ∧ D ≤ w.heap.size) → Sy.free γ D → W.heap[D]? = some (.deferred (some [])) → w.heap.size ≤ W.heap.size → k < N γ0 → Ix c k γ W → Sy.inv γ W → V W → c.wpIn Fence.wide 0 P Q { a with defers := { target := .collected D, args := #[] } :: a.defers } W) :
    (Code.rangeFunc g ps assign body).wpIn Fence.wide 0 P Q a w := by
  obtain ⟨W1, hW1⟩ : ∃ W1, (w.alloc (.deferred (some []))).alloc (.deferred (some [])) = W1 := ⟨_, rfl⟩
  have hs1 : W1.heap.size = w.heap.size + 2 := by rw [← hW1]; simp
  have hD1 : W1.heap[w.heap.size]? = some (.deferred (some [])) := by
    rw [← hW1]; exact (Below.heap_alloc _ _ _ (by simp)).trans (World.alloc_heap_new w _)
  have hk1 : Keep (fun _ => True) w W1 := by rw [← hW1]; exact (Keep.alloc _ w _).trans (Keep.alloc _ _ _)
  refine wpIn_rangeFunc ?_
  intro fn _
  obtain ⟨W2, hrun, hkW, hz2, hl2, hkl⟩ : ∃ W1', (Instr.enterLoop fn a.tmps ps assign body Fence.wide.round).run P w = .ok (w.heap.size + 1, [{ target := .collected w.heap.size, args := #[] }]) W1' ∧ Keep (fun _ => True) w W1' ∧ W1'.heap.size = W1.heap.size ∧
       W1'.heap[w.heap.size + 1]? = some (.loop { state := .ready, pending := none, fn := fn, tmps := a.tmps, params := ps, assign := assign, body := body, defers := w.heap.size }) ∧ Keep (fun b => b ≠ w.heap.size + 1) W1 W1' := by
    refine ⟨_, run_enterLoop_outer _ _ _ _ _, (Keep.alloc _ w _).trans (Keep.alloc _ _ _), by rw [hs1]; simp, ?_, ?_⟩
    · have := World.alloc_heap_new (w.alloc (.deferred (some []))) (.loop { state := .ready, pending := none, fn := fn, tmps := a.tmps, params := ps, assign := assign, body := body, defers := w.heap.size })
      rwa [World.size_alloc] at this
    · rw [← hW1]
      refine ⟨rfl, rfl, rfl, by simp, fun k hk hC => ?_⟩
      have hk' : k < (w.alloc (.deferred (some []))).heap.size := by simp at hk ⊢; omega
      rw [Below.heap_alloc _ _ _ hk', Below.heap_alloc _ _ _ hk']
  refine ⟨w.heap.size + 1, _, W2, { target := .fn (.func gf) lb, args := #[.func (.yield (w.heap.size + 1)) #[] #[]] }, W2, gf, #[.func (.yield (w.heap.size + 1)) #[] #[]] ++ lb, W2, hrun, ?_, fun f' _ => trivial, ?_, fun h => by have hFd : Fence.wide.depth = none := rfl; simp [hFd] at h, ?_⟩
  · simp only [resolve, hg]
    simp [go_sem]
  · simp [invoke, go_sem, eg]
  · have hD2 : W2.heap[w.heap.size]? = some (.deferred (some [])) := hkl.heap hD1 (by omega)
    have hcalls := hit (w.heap.size + 1)
      (fun k γ W => (I k γ W ∧ Sy.free γ w.heap.size ∧ W.heap[w.heap.size]? = some (.deferred (some []))) ∧ Sy.free γ (w.heap.size + 1) ∧ W.heap[w.heap.size + 1]? = some (.loop { state := .ready, pending := none, fn := fn, tmps := a.tmps, params := ps, assign := assign, body := body, defers := w.heap.size }))
      (fun k γ W => ∃ c, (Ix c k γ W ∧ Sy.free γ w.heap.size ∧ W.heap[w.heap.size]? = some (.deferred (some []))) ∧ Sy.free γ (w.heap.size + 1) ∧ W.heap[w.heap.size + 1]? = some (.loop { state := .done, pending := some c, fn := fn, tmps := a.tmps, params := ps, assign := assign, body := body, defers := w.heap.size }))
      W2 γ0 (by omega) (Sy.invk hinv0 (hkW.mono fun _ _ _ => trivial)) (hVst _ _ hV0 (hkW.mono fun _ _ _ => trivial)) hU
      (fun k γ X γ' Y h hs => ⟨⟨hIs k γ X γ' Y h.1.1 hs, Sy.inew hs _ (heap_lt h.1.2.2) h.1.2.1, (Sy.ifree hs).heap h.1.2.2 h.1.2.1⟩, Sy.inew hs _ (heap_lt h.2.2) h.2.1, (Sy.ifree hs).heap h.2.2 h.2.1⟩)
      (fun k γ X γ' Y h hs => by
        obtain ⟨c, h1, h2, h3⟩ := h
        exact ⟨c, ⟨hIxs c k γ X γ' Y h1.1 hs, Sy.inew hs _ (heap_lt h1.2.2) h1.2.1, (Sy.ifree hs).heap h1.2.2 h1.2.1⟩, Sy.inew hs _ (heap_lt h3) h2, (Sy.ifree hs).heap h3 h2⟩)
      (fun k γ X0 X args hk h00 hist hinv hV hz hA => by
        have h : (I k γ X ∧ Sy.free γ w.heap.size ∧ X.heap[w.heap.size]? = some (.deferred (some []))) ∧ Sy.free γ (w.heap.size + 1) ∧ X.heap[w.heap.size + 1]? = some (.loop { state := .ready, pending := none, fn := fn, tmps := a.tmps, params := ps, assign := assign, body := body, defers := w.heap.size }) := ⟨⟨hIs k γ X0 γ X h00.1.1 hist, h00.1.2.1, (Sy.ifree hist).heap h00.1.2.2 h00.1.2.1⟩, h00.2.1, (Sy.ifree hist).heap h00.2.2 h00.2.1⟩
        have := round_ofG (P := P) (fn := fn) (l := w.heap.size + 1) (B := w.heap.size) (tmps0 := a.tmps) (ps := ps) (assign := assign) (body := body) (df := w.heap.size) Sy
          (rec := fun st pe => { state := st, pending := pe, fn := fn, tmps := a.tmps, params := ps, assign := assign, body := body, defers := w.heap.size }) rfl (by omega) (hps _ _ _ _ _ _ hA) hVst
          (I := fun k γ W => I k γ W ∧ Sy.free γ w.heap.size ∧ W.heap[w.heap.size]? = some (.deferred (some [])))
          (Ix := fun c k γ W => Ix c k γ W ∧ Sy.free γ w.heap.size ∧ W.heap[w.heap.size]? = some (.deferred (some [])))
          (fun k γ X Y h hK => ⟨hI k γ X Y h.1 (hK.mono fun b _ h => by omega), h.2.1, hK.heap h.2.2 (by omega)⟩)
          (fun c k γ X Y h hK => ⟨hIx c k γ X Y h.1 (hK.mono fun b _ h => by omega), h.2.1, hK.heap h.2.2 (by omega)⟩)
          X k γ h.2.1 h.2.2 (by
            refine wpIn_mono (hround (w.heap.size + 1) k γ X0 X args (by omega) (heap_lt h00.2.2) ⟨h.2.1, h.1.2.1, rfl⟩ hk h00.1.1 hist hinv hV (by omega) hA) ?_
            intro e a₁ X₁ he
            cases e with
            | normal =>
              obtain ⟨hk1, hb⟩ := he
              refine ⟨hk1, fun Y hY hs hl => wpIn_mono (hb Y hY hs hl) ?_⟩
              have hY0 : Y.heap[w.heap.size]? = some (.deferred (some [])) := hY.heap (hk1.heap h.1.2.2 (by have := heap_lt h.1.2.2; omega)) (by omega)
              have conv : ∀ (R : Γ → Prop) (Z : World), bodyEndG Sy w.heap.size (w.heap.size + 1) X.heap.size V γ Y Z R → bodyEndG Sy w.heap.size (w.heap.size + 1) X.heap.size V γ Y Z (fun γ' => R γ' ∧ Sy.free γ' w.heap.size ∧ Z.heap[w.heap.size]? = some (.deferred (some []))) := by
                rintro R Z ⟨γ', q1, q2, q3, q4, q5⟩
                exact ⟨γ', q1, q2, q3, q4, q5, Sy.bnew q3 _ (heap_lt h.1.2.2) h.1.2.1, q4.heap hY0 ⟨Nat.le_refl _, by omega⟩⟩
              rintro e' a' Z hz
              cases e' with
              | normal => exact conv _ _ hz
              | ret => exact conv _ _ hz
              | exit id => exact conv _ _ hz
              | goto t => exact conv _ _ hz
              | panic c => exact hz.elim
              | outgrown => exact hz.elim
            | ret => exact he.elim
            | exit id => exact he.elim
            | goto t => exact he.elim
            | panic c => exact he.elim
            | outgrown => exact he.elim)
        exact this)
      ⟨⟨hI _ _ _ _ (hI _ _ _ _ h0 (hk1.mono fun _ _ _ => trivial)) (hkl.mono fun b _ h => by omega), hfree _ (Nat.le_refl _), hD2⟩, hfree _ (by omega), hl2⟩
    have hc2 : Calls P gf (#[.func (.yield (w.heap.size + 1)) #[] #[]] ++ lb) W2 (rangePost Fence.wide 0 P (w.heap.size + 1) Q { a with defers := [{ target := .collected w.heap.size, args := #[] }] ++ a.defers }) := by
      refine hcalls.mono ?_
      rintro e W3 ⟨⟨v, rfl⟩, hs2, γ', hinv, hV2, hJ | ⟨k, hk, c, hx, hf, hh⟩⟩
      · obtain ⟨⟨hi, hfD, hD⟩, hf, hh⟩ := hJ
        refine ⟨none, _, run_endLoop (P := P) hh (by simp), hdone _ γ' _ ⟨Nat.le_refl _, Nat.le_refl _⟩ hfD ?_ (by simp; omega) (hI _ _ _ _ hi (Keep.putObj _ _ _ (by omega))) (Sy.invk hinv (Keep.putObj _ _ _ (by simpa using hf))) (hVst _ _ hV2 (Keep.putObj _ _ _ (by omega)))⟩
        rw [World.putObj_heap_other (by omega)]; exact hD
      · refine ⟨some c, _, run_endLoop (P := P) hh (by simp), hstop _ c k γ' _ ⟨Nat.le_refl _, Nat.le_refl _⟩ hx.2.1 ?_ (by simp; omega) hk (hIx _ _ _ _ _ hx.1 (Keep.putObj _ _ _ (by omega))) (Sy.invk hinv (Keep.putObj _ _ _ (by simpa using hf))) (hVst _ _ hV2 (Keep.putObj _ _ _ (by omega)))⟩
        rw [World.putObj_heap_other (by omega)]; exact hx.2.2
    exact callsIn_wide.2 hc2
end Go.Ink

/- Layer 4, the program's relation: what the ranges over All and Match share; All. -/
namespace Go.Proofs
open Go.RowKit Go.Ink
set_option linter.unusedVariables false
set_option linter.unusedSimpArgs false
attribute [local go_sem] Oper.semAt_some

/-- the state of a relation: its tags, tuples, row, looks -/
structure RelS where
  tag : Tags
  ts : List (List Int)
  vD : Value
  lm : List (List Bool × Nat)
structure RelInv (B n P K : Nat) (s : RelS) (w : World) : Prop where
  own : RelOwn s.tag w B n s.ts s.vD P K s.lm
  few : s.ts.length ≤ 67108864
/-- what an iterator does of its own -/
structure RelIt (B n P K : Nat) (s : RelS) (X : World) (s' : RelS) (Y : World) : Prop where
  keep : Keep (fun b => s.tag b = none) X Y
  same : s'.ts = s.ts
  le : TagLe s.tag s'.tag
  new : TagNew s.tag s'.tag X
  sub : ∀ p, p ∈ s.lm → p ∈ s'.lm
  inv : RelInv B n P K s' Y
/-- what a body may do -/
structure RelBd (s : RelS) (m : Nat) (s' : RelS) : Prop where
  more : ∃ us, s'.ts = s.ts ++ us
  le : TagLe s.tag s'.tag
  new : ∀ b T, s'.tag b = some T → (∃ T', s.tag b = some T') ∨ m ≤ b
  sub : ∀ p, p ∈ s.lm → p ∈ s'.lm
theorem RelBd.refl (s : RelS) (m : Nat) : RelBd s m s := ⟨⟨[], by simp⟩, TagLe.refl _, fun b T h => .inl ⟨T, h⟩, fun _ h => h⟩
theorem RelBd.mono {s s' : RelS} {m m0 : Nat} (h : RelBd s m s') (hm : m0 ≤ m) : RelBd s m0 s' := ⟨h.more, h.le, fun b T hb => (h.new b T hb).imp id (fun h => by omega), h.sub⟩
theorem RelBd.trans {s s' s'' : RelS} {m m' : Nat} (h : RelBd s m s') (g : RelBd s' m' s'') (hm : m ≤ m') : RelBd s m s'' := by
  obtain ⟨u, hu⟩ := h.more
  obtain ⟨v, hv⟩ := g.more
  refine ⟨⟨u ++ v, by rw [hv, hu, List.append_assoc]⟩, h.le.trans g.le, fun b T hb => ?_, fun p hp => g.sub p (h.sub p hp)⟩
  rcases g.new b T hb with ⟨T', h1⟩ | h1
  · exact h.new b T' h1
  · exact .inr (by omega)
theorem RelIt.bd {B n P K : Nat} {s s' : RelS} {X Y : World} (h : RelIt B n P K s X s' Y) : RelBd s X.heap.size s' := ⟨⟨[], by simp [h.same]⟩, h.le, h.new, h.sub⟩
theorem RelInv.keep {B n P K : Nat} {s : RelS} {X Y : World} (h : RelInv B n P K s X) (hK : Keep (fun b => ¬ s.tag b = none) X Y) : RelInv B n P K s Y := ⟨h.own.keep hK (fun b T hb _ e => by rw [hb] at e; cases e), h.few⟩
theorem relIt_keep {B n P K : Nat} {s : RelS} {X Y : World} (h : RelInv B n P K s X) (hK : Keep (fun _ => True) X Y) : RelIt B n P K s X s Y := ⟨hK.mono fun _ _ _ => trivial, rfl, TagLe.refl _, TagNew.refl _ _, fun _ h => h, h.keep (hK.mono fun _ _ _ => trivial)⟩

def relSys (B n P K : Nat) : IterSys RelS where
  inv := RelInv B n P K
  free s b := s.tag b = none
  istep := RelIt B n P K
  bstep := RelBd
  ifree h := h.keep
  inew := fun {s X s' Y} h b hb hf => by
    cases hT : s'.tag b with
    | none => rfl
    | some T =>
      rcases h.new b T hT with ⟨T', h1⟩ | h1
      · rw [hf] at h1; cases h1
      · omega
  bnew := fun {s m s'} h b hb hf => by
    cases hT : s'.tag b with
    | none => rfl
    | some T =>
      rcases h.new b T hT with ⟨T', h1⟩ | h1
      · rw [hf] at h1; cases h1
      · omega
  bmono hm h := h.mono hm
  invk h hK := h.keep hK

/-- what is yielded: a place, and its tuple in memory that is nobody's -/
def Told (i : Nat) (t : List Int) (m : Nat) (X : World) (args : Array Value) : Prop :=
  ∃ v, args = #[.int .i64 (i : Int), v] ∧ X.ownsRow m 3 1 v t.length (t.map (.int .i64)) ∧ t.length ≤ 1073741824

/-- the boxes of All's own variables -/
def AllV (bF bT bR : Nat) (lo hi : Int) (B : Nat) (w : World) : Prop :=
  w.heap[bF]? = some (.cells #[.int .i64 lo] 3 (0, 0)) ∧ w.heap[bT]? = some (.cells #[.int .i64 hi] 3 (0, 0)) ∧ w.heap[bR]? = some (.cells #[.pointer (some ⟨B, 0, none⟩)] 24 (0, 0))
theorem AllV.keep {bF bT bR : Nat} {lo hi : Int} {B : Nat} {w w' : World} {C : Nat → Prop} (h : AllV bF bT bR lo hi B w) (hK : Keep C w w') (h1 : C bF) (h2 : C bT) (h3 : C bR) : AllV bF bT bR lo hi B w' := ⟨hK.heap h.1 h1, hK.heap h.2.1 h2, hK.heap h.2.2 h3⟩

/-- All: the places from lo to hi -/
def allLo (lo : Int) : Nat := lo.toNat
def allN (lo hi : Int) (s : RelS) : Nat := (min hi s.ts.length).toNat - lo.toNat

set_option maxRecDepth 100000 in
theorem relAll_any (w : World) (B : Nat) (lo hi : Int) : Calls Try.prog 12 #[.pointer (some ⟨B, 0, none⟩), .int .i64 lo, .int .i64 hi] w fun e w' =>
    e = .returned (.func (.func 35) #[] #[.pointer (some ⟨w.heap.size + 1, 0, none⟩), .pointer (some ⟨w.heap.size + 2, 0, none⟩), .pointer (some ⟨w.heap.size, 0, none⟩)]) ∧ Keep (fun _ => True) w w' ∧ AllV (w.heap.size + 1) (w.heap.size + 2) w.heap.size lo hi B w' := by
  go_enter Try.func12, Try.ntmps12
  go_wp2
  go_ret
  refine ⟨rfl, ((Keep.alloc _ _ _).trans (Keep.alloc _ _ _)).trans (Keep.alloc _ _ _), ?_, ?_, ?_⟩ <;> (simp only [alloc_get, World.size_alloc]; simp) <;> omega

set_option maxRecDepth 100000 in
set_option maxHeartbeats 2000000 in
theorem relAll_iter (B n P KM bF bT bR : Nat) (lo hi : Int) : IterG Try.prog 35 #[.pointer (some ⟨bF, 0, none⟩), .pointer (some ⟨bT, 0, none⟩), .pointer (some ⟨bR, 0, none⟩)] (relSys B n P KM) (allN lo hi)
    (fun s0 k s m X args => ∃ t, s0.ts[lo.toNat + k]? = some t ∧ Told (lo.toNat + k) t m X args) (AllV bF bT bR lo hi B) (fun _ => False) := by
  rw [show allN lo hi = fun s : RelS => (min hi s.ts.length).toNat - lo.toNat from rfl]
  generalize hL0 : lo.toNat = L0
  intro l J Jx W s0 hl hinv hV _ hJ hJx hround h0
  refine calls_of0 Try.func35 rfl ?_
  simp only [Try.ntmps35, List.size_toArray, List.length_cons, List.length_nil, Nat.reduceAdd, Nat.reduceSub, Array.replicate_succ, Array.replicate_zero, List.push_toArray, List.append_toArray, List.nil_append, List.cons_append]
  have cF : W.cell? ⟨bF, 0, none⟩ = some (.int .i64 lo) := by have := cells_of_block hV.1 0 _ rfl; simpa using this
  have cT : W.cell? ⟨bT, 0, none⟩ = some (.int .i64 hi) := by have := cells_of_block hV.2.1 0 _ rfl; simpa using this
  have cR : W.cell? ⟨bR, 0, none⟩ = some (.pointer (some ⟨B, 0, none⟩)) := by have := cells_of_block hV.2.2 0 _ rfl; simpa using this
  have lF := heap_lt hV.1
  have lT := heap_lt hV.2.1
  have lR := heap_lt hV.2.2
  have hS0 := And.intro cF (And.intro cT cR)
  clear cF cT cR
  have Xhinv := Lib.hid hinv
  have XhV := Lib.hid hV
  have XhJ := Lib.hid hJ
  have XhJx := Lib.hid hJx
  have Xhround := Lib.hid hround
  have Xh0 := Lib.hid h0
  have XhS0 := Lib.hid hS0
  clear hinv hV hJ hJx hround h0 hS0
  obtain ⟨a0, hmx, ha0⟩ : ∃ a0 : Int, (if 0 < lo then lo else 0) = a0 ∧ a0 = (L0 : Int) := ⟨_, rfl, by split <;> omega⟩
  obtain ⟨b0, hmn, hb0⟩ : ∃ b0 : Int, (if (s0.ts.length : Int) < hi then (s0.ts.length : Int) else hi) = b0 ∧ b0 = min hi s0.ts.length := ⟨_, rfl, by split <;> omega⟩
  gi_wp2
  refine wpIn_wide.2 ?_
  refine region_hoist rfl (fun W => W.cell? ⟨bF, 0, none⟩ = some (.int .i64 lo) ∧ W.cell? ⟨bT, 0, none⟩ = some (.int .i64 hi) ∧ W.cell? ⟨bR, 0, none⟩ = some (.pointer (some ⟨B, 0, none⟩))) [] ?_
  have hS1 : W.drew.cell? ⟨bF, 0, none⟩ = some (.int .i64 lo) ∧ W.drew.cell? ⟨bT, 0, none⟩ = some (.int .i64 hi) ∧ W.drew.cell? ⟨bR, 0, none⟩ = some (.pointer (some ⟨B, 0, none⟩)) := XhS0.out
  have hinvd : RelInv B n P KM s0 W.drew := Xhinv.out.keep (Keep.drew _ _)
  have XhS1 := Lib.hid hS1
  have Xhinvd := Lib.hid hinvd
  have Xha0 := Lib.hid ha0
  have Xhb0 := Lib.hid hb0
  clear hS1 hinvd ha0 hb0
  refine hoist_take (i := 0) (v := ?_) rfl (by kernel_rfl) (by kernel_rfl) (by kernel_rfl) (by kernel_rfl) (fun _ _ _ h => h) XhS1.out (Or.inl ⟨by rfl, ?_⟩) ?_
  rotate_left
  · intro Wq hWq
    obtain ⟨x0, x1, x2⟩ := hWq
    go_simp
    try with_reducible rfl
  try simp only [Act.put, List.getElem_toArray, List.getElem_cons_zero, List.getElem_cons_succ, List.setIfInBounds_toArray, List.set_cons_zero, List.set_cons_succ]
  refine hoist_take (i := 2) (v := ?_) rfl (by kernel_rfl) (by kernel_rfl) (by kernel_rfl) (by kernel_rfl) (fun _ _ _ h => h) XhS1.out (Or.inl ⟨by rfl, ?_⟩) ?_
  rotate_left
  · intro Wq hWq
    obtain ⟨x0, x1, x2⟩ := hWq
    go_simp
    try with_reducible rfl
  try simp only [Act.put, List.getElem_toArray, List.getElem_cons_zero, List.getElem_cons_succ, List.setIfInBounds_toArray, List.set_cons_zero, List.set_cons_succ]
  refine hoist_take (i := 3) (v := ?_) rfl (by kernel_rfl) (by kernel_rfl) (by kernel_rfl) (by kernel_rfl) (fun _ _ _ h => h) XhS1.out (Or.inl ⟨by rfl, ?_⟩) ?_
  rotate_left
  · intro Wq hWq
    obtain ⟨x0, x1, x2⟩ := hWq
    go_simp
    try with_reducible rfl
  try simp only [Act.put, List.getElem_toArray, List.getElem_cons_zero, List.getElem_cons_succ, List.setIfInBounds_toArray, List.set_cons_zero, List.set_cons_succ]
  refine hoist_take (i := 1) (v := ?_) rfl (by kernel_rfl) (by kernel_rfl) (by kernel_rfl) (by kernel_rfl) (fun _ _ _ h => h) XhS1.out (Or.inl ⟨by rfl, ?_⟩) ?_
  rotate_left
  · intro Wq hWq
    obtain ⟨x0, x1, x2⟩ := hWq
    go_simp
    try with_reducible rfl
  try simp only [Act.put, List.getElem_toArray, List.getElem_cons_zero, List.getElem_cons_succ, List.setIfInBounds_toArray, List.set_cons_zero, List.set_cons_succ]
  refine hoist_one (i := 4) rfl (by kernel_rfl) (fun K hK => ?_)
  have XhK0 := Lib.hid hK
  clear hK
  go_wp2_with fail
  refine (relLen_any Xhinvd.out.own.box).mono ?_
  rintro e W1 ⟨rfl, hW1⟩
  subst hW1
  go_wp2_with fail
  refine XhK0.out _ _ (fun _ => XhS1.out) ?_
  refine hoist_take (i := 5) (v := ?_) rfl (by kernel_rfl) (by kernel_rfl) (by kernel_rfl) (by kernel_rfl) (fun _ _ _ h => h) XhS1.out (Or.inl ⟨by rfl, ?_⟩) ?_
  rotate_left
  · intro Wq hWq
    obtain ⟨x0, x1, x2⟩ := hWq
    go_simp
    try with_reducible rfl
  try simp only [Act.put, List.getElem_toArray, List.getElem_cons_zero, List.getElem_cons_succ, List.setIfInBounds_toArray, List.set_cons_zero, List.set_cons_succ]
  refine hoist_one (i := 6) rfl (by kernel_rfl) (fun K hK => ?_)
  have XhK1 := Lib.hid hK
  clear hK
  go_wp2_with fail
  refine XhK1.out _ _ (fun _ => XhS1.out) ?_
  refine hoist_one (i := 7) rfl (by kernel_rfl) (fun K hK => ?_)
  have XhK2 := Lib.hid hK
  clear hK
  go_wp2_with fail
  refine XhK2.out _ _ (fun _ => XhS1.out) ?_
  refine hoist_done (by kernel_rfl) ?_
  clear XhK0 XhK1 XhK2 XhS1 hmx hmn XhS0
  obtain ⟨Wd, hWd'⟩ : ∃ Wd, W.drew = Wd := ⟨_, rfl⟩
  rw [hWd'] at Xhinvd
  rw [hWd']
  have hkd : Keep (fun _ => True) W Wd := by rw [← hWd']; exact Keep.drew _ _
  have hVd := XhV.out.keep hkd trivial trivial trivial
  have hJ0 : J 0 s0 Wd := XhJ.out 0 s0 W s0 Wd Xh0.out (relIt_keep Xhinv.out hkd)
  have hzd := hkd.size
  have XhVd := Lib.hid hVd
  have XhJ0 := Lib.hid hJ0
  have Xhkd := Lib.hid hkd
  clear hVd hJ0 hkd
  gi_wp2
  gi_loopw [5] (fun i wr => ∃ (k : Nat) (s : RelS), i = .int .i64 ((L0 : Int) + k) ∧ k ≤ ((min hi s0.ts.length).toNat - L0) ∧ J k s wr ∧ RelInv B n P KM s wr ∧ AllV bF bT bR lo hi B wr ∧ RelBd s0 W.heap.size s ∧ W.heap.size ≤ wr.heap.size) (fun i _ => (b0 - intOf i).toNat)
  case atStart => exact ⟨0, s0, by rw [Xha0.out]; simp, Nat.zero_le _, XhJ0.out, Xhinvd.out, XhVd.out, RelBd.refl _ _, by omega⟩
  case round =>
    obtain ⟨k, s, rfl, hk, hJk, hinvk, hVk, hbd, hsz⟩ := hrel
    have hb0' := Xhb0.out
    obtain ⟨us, hus⟩ := hbd.more
    have hBr := heap_lt hinvk.own.box
    by_cases hlt : (L0 : Int) + k < b0
    · have hkN : k < ((min hi s0.ts.length).toNat - L0) := by omega
      have hil : L0 + k < s0.ts.length := by omega
      obtain ⟨t, ht⟩ : ∃ t, s0.ts[L0 + k]? = some t := ⟨_, List.getElem?_eq_getElem hil⟩
      have hts : s.ts[L0 + k]? = some t := by rw [hus, List.getElem?_append_left hil]; exact ht
      have hfew := hinvk.few
      have hsl : s0.ts.length ≤ s.ts.length := by rw [hus]; simp
      have hib : (L0 : Int) + k ≤ 67108864 := by omega
      have hi0 : (0 : Int) ≤ (L0 : Int) + k := by omega
      have hcast : ((L0 + k : Nat) : Int) = (L0 : Int) + k := by simp
      obtain ⟨W1, hW1⟩ : ∃ W1, wr.alloc (.cells #[] 3) = W1 := ⟨_, rfl⟩
      have k1 : Keep (fun _ => True) wr W1 := by rw [← hW1]; exact Keep.alloc _ _ _
      have ho1 : W1.ownsRow wr.heap.size 3 1 (.slice (some ⟨wr.heap.size, 0, none⟩) 0 0) 0 [] := by rw [← hW1]; exact World.ownsRow_made wr #[] 0 (Nat.le_refl _) (by simp [maxLen]) rfl
      have hinv1 := hinvk.keep (k1.mono fun _ _ _ => trivial)
      have cR1 : W1.cell? ⟨bR, 0, none⟩ = some (.pointer (some ⟨B, 0, none⟩)) := by have := cells_of_block (hVk.keep k1 trivial trivial trivial).2.2 0 _ rfl; simpa using this
      have lR1 : bR < W1.heap.size := World.block_lt_of_cell? _ _ cR1
      have htup := tuple_any hinv1.own (by omega) _ t hts
      rw [hcast] at htup
      have XhJk := Lib.hid hJk
      have Xhinvk := Lib.hid hinvk
      have XhVk := Lib.hid hVk
      have Xhbd := Lib.hid hbd
      have Xhus := Lib.hid hus
      have Xht := Lib.hid ht
      have Xhts := Lib.hid hts
      have Xk1 := Lib.hid k1
      have Xho1 := Lib.hid ho1
      have Xhinv1 := Lib.hid hinv1
      have Xhtup := Lib.hid htup
      have Xhb0' := Lib.hid hb0'
      have Xhcast := Lib.hid hcast
      clear hJk hinvk hVk hbd hus ht hts k1 ho1 hinv1 htup hb0' hcast
      gi_wp2
      refine ⟨trivial, rfl, (callsIn_wide.2 Xhtup.out).mono ?_⟩
      rintro e W2 ⟨vt, rfl, k2, z2, hvt, htl⟩
      have ho2 := own_kept Xho1.out k2 (fun _ _ => trivial)
      have hvt2 := ints_stay hvt (m := W1.heap.size) (k2.mono fun _ _ _ => trivial) (Nat.le_refl _)
      obtain ⟨at', ct', rfl, hlt', hct', het'⟩ := id hvt2
      have hcl := slice_cells (sz := 1) ic (fun _ => rfl) (by omega) (E := IntE) (fun b o x h j u hj => by
        have hj0 : j = 0 := by have := (List.getElem?_eq_some_iff.1 hj).1; simp [ic] at this; exact this
        subst hj0
        simp [ic] at hj
        subst hj
        exact h) hvt2 rfl
      have hz12 : wr.heap.size ≤ W2.heap.size := by have := Xk1.out.size; omega
      obtain ⟨va, W3, hr3, ho3, hg3, kw3⟩ := appA (P := Try.prog) el_int 23 ho2 at' t.length ct' (t.flatMap ic) (flatMap_len _ 1 (fun _ => rfl) _) hcl.1 hcl.2 (flat_one _ (by simp [ic, Value.oneCell']) _) (by omega) hz12
      rw [ic_map, List.nil_append, Nat.zero_add] at ho3
      have k03 : Keep (fun _ => True) wr W3 := ((Xk1.out.mono fun _ _ _ => trivial).trans ((k2.mono fun _ _ _ => trivial).trans (kw3.mono (C' := fun b => b < wr.heap.size) fun b _ h e => by have := (World.ownsRow.lt ho3 b e).1; omega))).mono (fun b hb _ => hb)
      have hinv3 := Xhinvk.out.keep (k03.mono fun _ _ _ => trivial)
      have hV3 := XhVk.out.keep k03 trivial trivial trivial
      obtain ⟨fn, tmps, assign, body, hy, hR⟩ := Xhround.out k s wr W3 #[.int .i64 ((L0 : Int) + k), va] hkN XhJk.out (relIt_keep Xhinvk.out k03) hinv3 hV3 hsz ⟨t, Xht.out, va, by rw [← Xhcast.out], ho3, hlt'⟩
      have hR' := Lib.hid hR
      clear hR hvt hvt2 het' hcl ho2 hg3 kw3 htl ho3
      have k2' := Lib.hid k2
      have hinv3' := Lib.hid hinv3
      have hV3' := Lib.hid hV3
      have hz3 : W.heap.size ≤ W3.heap.size := by have := k03.size; omega
      have k03' := Lib.hid k03
      clear k2 hinv3 hV3 k03
      have Xhr3 := Lib.hid hr3
      clear hr3
      gi_wp2_with (gi_at_builtin; refine gi_app (v := .slice (some ⟨wr.heap.size, 0, none⟩) 0 0) (u := .slice at' t.length ct') (v' := va) (w' := W3) rfl (.tmp 20) (.tmp 23) 23 rfl rfl rfl Xhr3.out ?_)
      refine ⟨rfl, hR'.out.mono ?_⟩
      rintro e Y ⟨s', hinvY, hVY, hbdY, hzY, (⟨rfl, hJY⟩ | ⟨rfl, hJY⟩)⟩
      all_goals
        have hbd' : RelBd s0 W.heap.size s' := Xhbd.out.trans hbdY hz3
        clear hbdY hR' hy
        have XhinvY := Lib.hid hinvY
        have XhVY := Lib.hid hVY
        have XhJY := Lib.hid hJY
        have Xhbd' := Lib.hid hbd'
        clear hinvY hVY hJY hbd'
        gi_wp2
      · refine ⟨⟨k + 1, s', ?_, by omega, XhJY.out, XhinvY.out, XhVY.out, Xhbd'.out, by omega⟩, ?_⟩
        · have : ((k + 1 : Nat) : Int) = (k : Int) + 1 := by simp
          rw [this, Int.add_assoc]
        · simp only [intOf]; omega
      · refine bodyPost_ret (results_none rfl _ _ _) rfl ?_
        exact ⟨⟨_, rfl⟩, by omega, s', XhinvY.out, XhVY.out, .inr ⟨k, hkN, XhJY.out⟩⟩
    · have hke : k = (min hi s0.ts.length).toNat - L0 := by omega
      have XhJk := Lib.hid hJk
      have Xhinvk := Lib.hid hinvk
      have XhVk := Lib.hid hVk
      have Xhbd := Lib.hid hbd
      have Xhb0' := Lib.hid hb0'
      have Xhke := Lib.hid hke
      clear hJk hinvk hVk hbd hb0' hke
      gi_wp2
      go_end0
      exact ⟨⟨_, rfl⟩, hsz, s, Xhinvk.out, XhVk.out, .inl (by have := Xhke.out; rw [← this]; exact XhJk.out)⟩
end Go.Proofs
