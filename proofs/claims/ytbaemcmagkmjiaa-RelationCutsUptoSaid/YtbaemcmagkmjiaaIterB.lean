/- An iterator's contract where what is yielded lies in new memory, and what the iterator leans on grows by the body (a ghost state says how). The law of a range over it, outside every round. No program is named here. -/
import Derived.Test.YtbaemcmagkmjiaaIter
namespace Go.Ink
open Go.RowKit
set_option linter.unusedVariables false
set_option linter.unusedSimpArgs false

/-- What an iterator and the bodies of the ranges over it share. -/
structure IterSys (Γ : Type) where
  inv : Γ → World → Prop
  free : Γ → Nat → Prop
  istep : Γ → World → Γ → World → Prop
  bstep : Γ → Nat → Γ → Prop
  ifree : ∀ {γ X γ' Y}, istep γ X γ' Y → Keep (free γ) X Y
  inew : ∀ {γ X γ' Y}, istep γ X γ' Y → ∀ b, b < X.heap.size → free γ b → free γ' b
  bnew : ∀ {γ n γ'}, bstep γ n γ' → ∀ b, b < n → free γ b → free γ' b
  bmono : ∀ {γ n n0 γ'}, n0 ≤ n → bstep γ n γ' → bstep γ n0 γ'
  invk : ∀ {γ X Y}, inv γ X → Keep (fun b => ¬ free γ b) X Y → inv γ Y

variable {Γ : Type}
def RoundEndG (Sy : IterSys Γ) (V : World → Prop) (J Jx : Nat → Γ → World → Prop) (k : Nat) (γ : Γ) (X : World) (e : Ending) (Y : World) : Prop :=
  ∃ γ', Sy.inv γ' Y ∧ V Y ∧ Sy.bstep γ X.heap.size γ' ∧ X.heap.size ≤ Y.heap.size ∧ ((e = .returned (.bool true) ∧ J (k + 1) γ' Y) ∨ (e = .returned (.bool false) ∧ Jx k γ' Y))

/-- the contract: N γ0 rounds, A γ0 k γ n X args: what the k-th yield is called with; n: the heap's size where the iterator went on -/
def IterG (P : Program) (g : Nat) (lb : Array Value) (Sy : IterSys Γ) (N : Γ → Nat) (A : Γ → Nat → Γ → Nat → World → Array Value → Prop) (V : World → Prop) (U : Nat → Prop) : Prop :=
  ∀ (l : Nat) (J Jx : Nat → Γ → World → Prop) (W : World) (γ0 : Γ), l < W.heap.size → Sy.inv γ0 W → V W → (∀ b, U b → Sy.free γ0 b) →
    (∀ k γ X γ' Y, J k γ X → Sy.istep γ X γ' Y → J k γ' Y) →
    (∀ k γ X γ' Y, Jx k γ X → Sy.istep γ X γ' Y → Jx k γ' Y) →
    (∀ k γ X0 X args, k < N γ0 → J k γ X0 → Sy.istep γ X0 γ X → Sy.inv γ X → V X → W.heap.size ≤ X0.heap.size → A γ0 k γ X0.heap.size X args → YieldAt Fence.wide 0 P l args X (RoundEndG Sy V J Jx k γ X)) →
    J 0 γ0 W →
    Calls P g (#[.func (.yield l) #[] #[]] ++ lb) W fun e W' => (∃ v, e = .returned v) ∧ W.heap.size ≤ W'.heap.size ∧
      ∃ γ', Sy.inv γ' W' ∧ V W' ∧ (J (N γ0) γ' W' ∨ ∃ k, k < N γ0 ∧ Jx k γ' W')

/-- How a body that began in Y0 may end (n: where the round began; l: the loop's record; B: the heap's size where the loop began). -/
def bodyEndG (Sy : IterSys Γ) (B l n : Nat) (V : World → Prop) (γ : Γ) (Y0 Y : World) (R : Γ → Prop) : Prop :=
  ∃ γ', Sy.inv γ' Y ∧ V Y ∧ Sy.bstep γ n γ' ∧ Keep (fun b => B ≤ b ∧ b ≤ l) Y0 Y ∧ R γ'
def bodyQG (Sy : IterSys Γ) (B l n : Nat) (V : World → Prop) (I : Nat → Γ → World → Prop) (Ix : Code → Nat → Γ → World → Prop) (k : Nat) (γ : Γ) (Y0 : World) : Exit → Act → World → Prop
  | .normal, _, Y => bodyEndG Sy B l n V γ Y0 Y fun γ' => I (k + 1) γ' Y
  | .ret, _, Y => bodyEndG Sy B l n V γ Y0 Y fun γ' => Ix .ret k γ' Y
  | .exit id, _, Y => bodyEndG Sy B l n V γ Y0 Y fun γ' => Ix (.exit id) k γ' Y
  | .goto t, _, Y => bodyEndG Sy B l n V γ Y0 Y fun γ' => Ix (.goto t) k γ' Y
  | .panic _, _, _ => False
  | .outgrown, _, _ => False

/-- What is asked behind the assignment to the loop's variables: the body. -/
def bodyAtG (Sy : IterSys Γ) (P : Program) (l B : Nat) (body : Code) (V : World → Prop) (I : Nat → Γ → World → Prop) (Ix : Code → Nat → Γ → World → Prop) (k : Nat) (γ : Γ) (X : World) (a₁ : Act) (X₁ : World) : Prop :=
  Keep (fun b => b < X.heap.size) X X₁ ∧
    ∀ Y, Keep (fun b => b ≠ l) X₁ Y → Y.heap.size = X₁.heap.size → (∃ r, Y.heap[l]? = some (.loop r)) → body.wpIn (inR l) 0 P (bodyQG Sy B l X.heap.size V I Ix k γ Y) a₁ Y

theorem round_ofG {P : Program} {fn : FuncId} {l B : Nat} {rec : LoopState → Option Code → Loop} {tmps0 : Array Value} {ps : Array Tmp} {assign body : Code} {df : Nat} (Sy : IterSys Γ)
    (hrec : rec = fun st pe => { state := st, pending := pe, fn := fn, tmps := tmps0, params := ps, assign := assign, body := body, defers := df })
    (hlB : B ≤ l) {args : Array Value} (hps : args.size = ps.size) {V : World → Prop} (hVst : ∀ X Y, V X → Keep (fun b => b < B) X Y → V Y)
    {I : Nat → Γ → World → Prop} {Ix : Code → Nat → Γ → World → Prop}
    (hI : ∀ k γ X Y, I k γ X → Keep (fun b => b ≠ l) X Y → I k γ Y) (hIx : ∀ c k γ X Y, Ix c k γ X → Keep (fun b => b ≠ l) X Y → Ix c k γ Y)
    (X : World) (k : Nat) (γ : Γ) (hfl : Sy.free γ l) (hl : X.heap[l]? = some (.loop (rec .ready none)))
    (hround : assign.wpIn (inR l) 0 P (Exit.then (bodyAtG Sy P l B body V I Ix k γ X) (fun _ _ _ => False)) { tmps := (ps.zip args).foldl (fun t (p, v) => t.setIfInBounds p v) tmps0, defers := [] } X) :
    YieldAt Fence.wide 0 P l args X (RoundEndG Sy V
      (fun k γ W => I k γ W ∧ Sy.free γ l ∧ W.heap[l]? = some (.loop (rec .ready none)))
      (fun k γ W => ∃ c, Ix c k γ W ∧ Sy.free γ l ∧ W.heap[l]? = some (.loop (rec .done (some c)))) k γ X) := by
  have hy := run_yield (P := P) (args := args) hl (by rw [hrec]; exact hps)
  rw [hrec] at hy
  have hllt := heap_lt hl
  refine ⟨fn, _, assign, body, hy, roundIn_of_wpIn (F := Fence.wide) trivial (wpIn_mono hround ?_)⟩
  intro e a₁ X₁ he
  cases e with
  | normal =>
    obtain ⟨hk1, hb⟩ := he
    have hl1' : X₁.heap[l]? = some (.loop (rec .ready none)) := hk1.heap hl hllt
    refine ⟨_, run_beginRound hl1' (by rw [hrec]), ?_⟩
    have hl2 : (X₁.putObj l (.loop { rec .ready none with state := .busy })).heap[l]? = some (.loop { rec .ready none with state := .busy }) := World.putObj_heap_same (heap_lt hl1')
    have hkY : Keep (fun b => b ≠ l) X₁ (X₁.putObj l (.loop { rec .ready none with state := .busy })) := Keep.putObj _ _ _ (by simp)
    refine wpIn_mono (hb _ hkY (by simp) ⟨_, hl2⟩) ?_
    generalize hY0 : X₁.putObj l (.loop { rec .ready none with state := .busy }) = Y0 at hl2 hkY
    clear hY0 hb
    have fin : ∀ (jump : Option Code) (Y : World) (R : Γ → Prop), bodyEndG Sy B l X.heap.size V γ Y0 Y R →
        ∃ Y', (Instr.endRound l jump).run P Y = .ok (.bool jump.isNone) Y' ∧ Y'.heap[l]? = some (.loop (rec (if jump.isNone then .ready else .done) jump)) ∧ Keep (fun b => b ≠ l) Y Y' ∧
        ∃ γ', Sy.inv γ' Y' ∧ V Y' ∧ Sy.bstep γ X.heap.size γ' ∧ X.heap.size ≤ Y'.heap.size ∧ Sy.free γ' l ∧ R γ' := by
      rintro jump Y R ⟨γ', hinv, hV, hbs, hK, hR⟩
      have hl3 : Y.heap[l]? = some (.loop { rec .ready none with state := .busy }) := hK.heap hl2 ⟨hlB, Nat.le_refl _⟩
      have := run_endRound (P := P) jump hl3
      have hfl' := Sy.bnew hbs l hllt hfl
      refine ⟨_, this, ?_, Keep.putObj _ _ _ (by simp), γ', Sy.invk hinv (Keep.putObj _ _ _ (by simpa using hfl')), hVst _ _ hV (Keep.putObj _ _ _ (by simp; omega)), hbs, ?_, hfl', hR⟩
      · rw [World.putObj_heap_same (heap_lt hl3)]; subst hrec; rfl
      · have h1 := hk1.size
        have h2 := hkY.size
        have h3 := hK.size
        simp; omega
    rintro e a3 Y hp
    cases e with
    | normal =>
      obtain ⟨Y', hr, hl', hKl, γ', hinv, hV, hbs, hz, hf, hR⟩ := fin none Y _ hp
      exact ⟨_, _, hr, γ', hinv, hV, hbs, hz, .inl ⟨rfl, hI _ _ _ _ hR hKl, hf, hl'⟩⟩
    | ret =>
      obtain ⟨Y', hr, hl', hKl, γ', hinv, hV, hbs, hz, hf, hR⟩ := fin (some .ret) Y _ hp
      exact ⟨_, _, hr, γ', hinv, hV, hbs, hz, .inr ⟨rfl, .ret, hIx _ _ _ _ _ hR hKl, hf, hl'⟩⟩
    | exit id =>
      obtain ⟨Y', hr, hl', hKl, γ', hinv, hV, hbs, hz, hf, hR⟩ := fin (some (.exit id)) Y _ hp
      exact ⟨_, _, hr, γ', hinv, hV, hbs, hz, .inr ⟨rfl, .exit id, hIx _ _ _ _ _ hR hKl, hf, hl'⟩⟩
    | goto t =>
      obtain ⟨Y', hr, hl', hKl, γ', hinv, hV, hbs, hz, hf, hR⟩ := fin (some (.goto t)) Y _ hp
      exact ⟨_, _, hr, γ', hinv, hV, hbs, hz, .inr ⟨rfl, .goto t, hIx _ _ _ _ _ hR hKl, hf, hl'⟩⟩
    | panic ch => exact hp.elim
    | outgrown => exact hp.elim
  | ret => exact he.elim
  | exit id => exact he.elim
  | goto t => exact he.elim
  | panic c => exact he.elim
  | outgrown => exact he.elim

/-- A RANGE OVER SUCH AN ITERATOR, OUTSIDE EVERY ROUND. -/
theorem range_outerG {P : Program} {g : Operand} {ps : Array Tmp} {assign body : Code} {Q : Exit → Act → World → Prop} {a : Act} {w : World} (Sy : IterSys Γ) (γ0 : Γ)
    {gf : Nat} {lb : Array Value} (hg : a.eval g = .func (.func gf) #[] lb) (eg : ∀ args w, (callFunc gf args).run P w = .ok (.enter gf args) w)
    {N : Γ → Nat} {A : Γ → Nat → Γ → Nat → World → Array Value → Prop} {V : World → Prop} {U : Nat → Prop} (hit : IterG P gf lb Sy N A V U) (hU : ∀ b, U b → Sy.free γ0 b) (hps : ∀ γ0 k γ n X args, A γ0 k γ n X args → args.size = ps.size)
    (hinv0 : Sy.inv γ0 w) (hfree : ∀ b, w.heap.size ≤ b → Sy.free γ0 b) (hV0 : V w) (hVst : ∀ X Y, V X → Keep (fun b => b < w.heap.size) X Y → V Y)
    (I : Nat → Γ → World → Prop) (Ix : Code → Nat → Γ → World → Prop)
    (hI : ∀ k γ X Y, I k γ X → Keep (fun b => b < w.heap.size ∨ w.heap.size + 2 ≤ b) X Y → I k γ Y) (hIx : ∀ c k γ X Y, Ix c k γ X → Keep (fun b => b < w.heap.size ∨ w.heap.size + 2 ≤ b) X Y → Ix c k γ Y)
    (hIs : ∀ k γ X γ' Y, I k γ X → Sy.istep γ X γ' Y → I k γ' Y) (hIxs : ∀ c k γ X γ' Y, Ix c k γ X → Sy.istep γ X γ' Y → Ix c k γ' Y)
    (h0 : I 0 γ0 w)
    (hround : ∀ l k γ X0 X args, w.heap.size ≤ l → l < X0.heap.size → (Sy.free γ l ∧ Sy.free γ w.heap.size ∧ l = w.heap.size + 1) → k < N γ0 → I k γ X0 → Sy.istep γ X0 γ X → Sy.inv γ X → V X → w.heap.size + 2 ≤ X0.heap.size → A γ0 k γ X0.heap.size X args → assign.wpIn (inR l) 0 P (Exit.then (bodyAtG Sy P l w.heap.size body V I Ix k γ X) (fun _ _ _ => False)) { tmps := (ps.zip args).foldl (fun t (p, v) => t.setIfInBounds p v) a.tmps, defers := [] } X)
    (hdone : ∀ D γ W, (w.heap.size ≤ D ∧ D ≤ w.heap.size) → Sy.free γ D → W.heap[D]? = some (.deferred (some [])) → w.heap.size ≤ W.heap.size → I (N γ0) γ W → Sy.inv γ W → V W → Q .normal { a with defers := { target := .collected D, args := #[] } :: a.defers } W)
    (hstop : ∀ D c k γ W, (w.heap.size ≤ D ∧ D ≤ w.heap.size) → Sy.free γ D → W.heap[D]? = some (.deferred (some [])) → w.heap.size ≤ W.heap.size → k < N γ0 → Ix c k γ W → Sy.inv γ W → V W → c.wpIn Fence.wide 0 P Q { a with defers := { target := .collected D, args := #[] } :: a.defers } W) :
    (Code.rangeFunc g ps assign body).wpIn Fence.wide 0 P Q a w := by
  obtain ⟨W1, hW1⟩ : ∃ W1, (w.alloc (.deferred (some []))).alloc (.deferred (some [])) = W1 := ⟨_, rfl⟩
  have hs1 : W1.heap.size = w.heap.size + 2 := by rw [← hW1]; simp
  have hD1 : W1.heap[w.heap.size]? = some (.deferred (some [])) := by
    rw [← hW1]; exact (Below.heap_alloc _ _ _ (by simp)).trans (World.alloc_heap_new w _)
  have hk1 : Keep (fun _ => True) w W1 := by rw [← hW1]; exact (Keep.alloc _ w _).trans (Keep.alloc _ _ _)
  refine wpIn_rangeFunc ?_
  intro fn _
  obtain ⟨W2, hrun, hkW, hz2, hl2, hkl⟩ : ∃ W1', (Instr.enterLoop fn a.tmps ps assign body Fence.wide.round).run P w = .ok (w.heap.size + 1, [{ target := .collected w.heap.size, args := #[] }]) W1' ∧ Keep (fun _ => True) w W1' ∧ W1'.heap.size = W1.heap.size ∧
       W1'.heap[w.heap.size + 1]? = some (.loop { state := .ready, pending := none, fn := fn, tmps := a.tmps, params := ps, assign := assign, body := body, defers := w.heap.size }) ∧ Keep (fun b => b ≠ w.heap.size + 1) W1 W1' := by
    refine ⟨_, run_enterLoop_outer _ _ _ _ _, (Keep.alloc _ w _).trans (Keep.alloc _ _ _), by rw [hs1]; simp, ?_, ?_⟩
    · have := World.alloc_heap_new (w.alloc (.deferred (some []))) (.loop { state := .ready, pending := none, fn := fn, tmps := a.tmps, params := ps, assign := assign, body := body, defers := w.heap.size })
      rwa [World.size_alloc] at this
    · rw [← hW1]
      refine ⟨rfl, rfl, rfl, by simp, fun k hk hC => ?_⟩
      have hk' : k < (w.alloc (.deferred (some []))).heap.size := by simp at hk ⊢; omega
      rw [Below.heap_alloc _ _ _ hk', Below.heap_alloc _ _ _ hk']
  refine ⟨w.heap.size + 1, _, W2, { target := .fn (.func gf) lb, args := #[.func (.yield (w.heap.size + 1)) #[] #[]] }, W2, gf, #[.func (.yield (w.heap.size + 1)) #[] #[]] ++ lb, W2, hrun, ?_, fun f' _ => trivial, ?_, fun h => by have hFd : Fence.wide.depth = none := rfl; simp [hFd] at h, ?_⟩
  · simp only [resolve, hg]
    simp [go_sem]
  · simp [invoke, go_sem, eg]
  · have hD2 : W2.heap[w.heap.size]? = some (.deferred (some [])) := hkl.heap hD1 (by omega)
    have hcalls := hit (w.heap.size + 1)
      (fun k γ W => (I k γ W ∧ Sy.free γ w.heap.size ∧ W.heap[w.heap.size]? = some (.deferred (some []))) ∧ Sy.free γ (w.heap.size + 1) ∧ W.heap[w.heap.size + 1]? = some (.loop { state := .ready, pending := none, fn := fn, tmps := a.tmps, params := ps, assign := assign, body := body, defers := w.heap.size }))
      (fun k γ W => ∃ c, (Ix c k γ W ∧ Sy.free γ w.heap.size ∧ W.heap[w.heap.size]? = some (.deferred (some []))) ∧ Sy.free γ (w.heap.size + 1) ∧ W.heap[w.heap.size + 1]? = some (.loop { state := .done, pending := some c, fn := fn, tmps := a.tmps, params := ps, assign := assign, body := body, defers := w.heap.size }))
      W2 γ0 (by omega) (Sy.invk hinv0 (hkW.mono fun _ _ _ => trivial)) (hVst _ _ hV0 (hkW.mono fun _ _ _ => trivial)) hU
      (fun k γ X γ' Y h hs => ⟨⟨hIs k γ X γ' Y h.1.1 hs, Sy.inew hs _ (heap_lt h.1.2.2) h.1.2.1, (Sy.ifree hs).heap h.1.2.2 h.1.2.1⟩, Sy.inew hs _ (heap_lt h.2.2) h.2.1, (Sy.ifree hs).heap h.2.2 h.2.1⟩)
      (fun k γ X γ' Y h hs => by
        obtain ⟨c, h1, h2, h3⟩ := h
        exact ⟨c, ⟨hIxs c k γ X γ' Y h1.1 hs, Sy.inew hs _ (heap_lt h1.2.2) h1.2.1, (Sy.ifree hs).heap h1.2.2 h1.2.1⟩, Sy.inew hs _ (heap_lt h3) h2, (Sy.ifree hs).heap h3 h2⟩)
      (fun k γ X0 X args hk h00 hist hinv hV hz hA => by
        have h : (I k γ X ∧ Sy.free γ w.heap.size ∧ X.heap[w.heap.size]? = some (.deferred (some []))) ∧ Sy.free γ (w.heap.size + 1) ∧ X.heap[w.heap.size + 1]? = some (.loop { state := .ready, pending := none, fn := fn, tmps := a.tmps, params := ps, assign := assign, body := body, defers := w.heap.size }) := ⟨⟨hIs k γ X0 γ X h00.1.1 hist, h00.1.2.1, (Sy.ifree hist).heap h00.1.2.2 h00.1.2.1⟩, h00.2.1, (Sy.ifree hist).heap h00.2.2 h00.2.1⟩
        have := round_ofG (P := P) (fn := fn) (l := w.heap.size + 1) (B := w.heap.size) (tmps0 := a.tmps) (ps := ps) (assign := assign) (body := body) (df := w.heap.size) Sy
          (rec := fun st pe => { state := st, pending := pe, fn := fn, tmps := a.tmps, params := ps, assign := assign, body := body, defers := w.heap.size }) rfl (by omega) (hps _ _ _ _ _ _ hA) hVst
          (I := fun k γ W => I k γ W ∧ Sy.free γ w.heap.size ∧ W.heap[w.heap.size]? = some (.deferred (some [])))
          (Ix := fun c k γ W => Ix c k γ W ∧ Sy.free γ w.heap.size ∧ W.heap[w.heap.size]? = some (.deferred (some [])))
          (fun k γ X Y h hK => ⟨hI k γ X Y h.1 (hK.mono fun b _ h => by omega), h.2.1, hK.heap h.2.2 (by omega)⟩)
          (fun c k γ X Y h hK => ⟨hIx c k γ X Y h.1 (hK.mono fun b _ h => by omega), h.2.1, hK.heap h.2.2 (by omega)⟩)
          X k γ h.2.1 h.2.2 (by
            refine wpIn_mono (hround (w.heap.size + 1) k γ X0 X args (by omega) (heap_lt h00.2.2) ⟨h.2.1, h.1.2.1, rfl⟩ hk h00.1.1 hist hinv hV (by omega) hA) ?_
            intro e a₁ X₁ he
            cases e with
            | normal =>
              obtain ⟨hk1, hb⟩ := he
              refine ⟨hk1, fun Y hY hs hl => wpIn_mono (hb Y hY hs hl) ?_⟩
              have hY0 : Y.heap[w.heap.size]? = some (.deferred (some [])) := hY.heap (hk1.heap h.1.2.2 (by have := heap_lt h.1.2.2; omega)) (by omega)
              have conv : ∀ (R : Γ → Prop) (Z : World), bodyEndG Sy w.heap.size (w.heap.size + 1) X.heap.size V γ Y Z R → bodyEndG Sy w.heap.size (w.heap.size + 1) X.heap.size V γ Y Z (fun γ' => R γ' ∧ Sy.free γ' w.heap.size ∧ Z.heap[w.heap.size]? = some (.deferred (some []))) := by
                rintro R Z ⟨γ', q1, q2, q3, q4, q5⟩
                exact ⟨γ', q1, q2, q3, q4, q5, Sy.bnew q3 _ (heap_lt h.1.2.2) h.1.2.1, q4.heap hY0 ⟨Nat.le_refl _, by omega⟩⟩
              rintro e' a' Z hz
              cases e' with
              | normal => exact conv _ _ hz
              | ret => exact conv _ _ hz
              | exit id => exact conv _ _ hz
              | goto t => exact conv _ _ hz
              | panic c => exact hz.elim
              | outgrown => exact hz.elim
            | ret => exact he.elim
            | exit id => exact he.elim
            | goto t => exact he.elim
            | panic c => exact he.elim
            | outgrown => exact he.elim)
        exact this)
      ⟨⟨hI _ _ _ _ (hI _ _ _ _ h0 (hk1.mono fun _ _ _ => trivial)) (hkl.mono fun b _ h => by omega), hfree _ (Nat.le_refl _), hD2⟩, hfree _ (by omega), hl2⟩
    have hc2 : Calls P gf (#[.func (.yield (w.heap.size + 1)) #[] #[]] ++ lb) W2 (rangePost Fence.wide 0 P (w.heap.size + 1) Q { a with defers := [{ target := .collected w.heap.size, args := #[] }] ++ a.defers }) := by
      refine hcalls.mono ?_
      rintro e W3 ⟨⟨v, rfl⟩, hs2, γ', hinv, hV2, hJ | ⟨k, hk, c, hx, hf, hh⟩⟩
      · obtain ⟨⟨hi, hfD, hD⟩, hf, hh⟩ := hJ
        refine ⟨none, _, run_endLoop (P := P) hh (by simp), hdone _ γ' _ ⟨Nat.le_refl _, Nat.le_refl _⟩ hfD ?_ (by simp; omega) (hI _ _ _ _ hi (Keep.putObj _ _ _ (by omega))) (Sy.invk hinv (Keep.putObj _ _ _ (by simpa using hf))) (hVst _ _ hV2 (Keep.putObj _ _ _ (by omega)))⟩
        rw [World.putObj_heap_other (by omega)]; exact hD
      · refine ⟨some c, _, run_endLoop (P := P) hh (by simp), hstop _ c k γ' _ ⟨Nat.le_refl _, Nat.le_refl _⟩ hx.2.1 ?_ (by simp; omega) hk (hIx _ _ _ _ _ hx.1 (Keep.putObj _ _ _ (by omega))) (Sy.invk hinv (Keep.putObj _ _ _ (by simpa using hf))) (hVst _ _ hV2 (Keep.putObj _ _ _ (by omega)))⟩
        rw [World.putObj_heap_other (by omega)]; exact hx.2.2
    exact callsIn_wide.2 hc2
end Go.Ink
