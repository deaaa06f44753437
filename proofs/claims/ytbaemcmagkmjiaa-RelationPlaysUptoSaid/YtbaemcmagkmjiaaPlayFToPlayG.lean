/- Layer 4, the law RelationPlays: iterators as they stand in memory; goes of one of them. -/
import Derived.Test.YtbaemcmagkmjiaaProg
import Derived.Test.YtbaemcmagkmjiaaPlayB
import Derived.Test.YtbaemcmagkmjiaaHoistRToDistL
import Derived.Test.YtbaemcmagkmjiaaPlayCToPlayD
namespace Go.Proofs
open Go.RowKit Go.Ink
set_option linter.unusedVariables false
set_option linter.unusedSimpArgs false
attribute [local go_sem] Oper.semAt_some

/-- an iterator that stands in memory: what a range over it tells of the relation are these places, with their tuples -/
structure ItP (B n P KM : Nat) (gf : Nat) (lb : Array Value) (places : List (List Int) → List Nat) (N : RelS → Nat) (A : RelS → Nat → RelS → Nat → World → Array Value → Prop) (V : World → Prop) (U : Nat → Prop) (n0 : Nat) (X : World) : Prop where
  eg : ∀ args w, (callFunc gf args).run Try.prog w = .ok (.enter gf args) w
  it : IterG Try.prog gf lb (relSys B n P KM) N A V U
  v : V X
  vu : ∀ X Y, V X → Keep U X Y → V Y
  u : ∀ b, U b → n0 ≤ b ∧ b < X.heap.size
  n : ∀ s, N s = (places s.ts).length
  a : ∀ s k s' m X args, A s k s' m X args → ∃ i t, (places s.ts)[k]? = some i ∧ s.ts[i]? = some t ∧ Told i t m X args
  two : ∀ s k s' m X args, A s k s' m X args → args.size = 2
theorem ItP.keep {B n P KM : Nat} {gf : Nat} {lb : Array Value} {places : List (List Int) → List Nat} {N : RelS → Nat} {A : RelS → Nat → RelS → Nat → World → Array Value → Prop} {V : World → Prop} {U : Nat → Prop} {n0 : Nat} {X Y : World} {C : Nat → Prop}
    (h : ItP B n P KM gf lb places N A V U n0 X) (hK : Keep C X Y) (hC : ∀ b, n0 ≤ b → b < X.heap.size → C b) : ItP B n P KM gf lb places N A V U n0 Y :=
  ⟨h.eg, h.it, h.vu _ _ h.v (hK.mono fun b _ hb => hC b (h.u b hb).1 (h.u b hb).2), h.vu, fun b hb => ⟨(h.u b hb).1, Nat.lt_of_lt_of_le (h.u b hb).2 hK.size⟩, h.n, h.a, h.two⟩

theorem iterG_A {Γ : Type} {P : Program} {g : Nat} {lb : Array Value} {Sy : IterSys Γ} {N : Γ → Nat} {A : Γ → Nat → Γ → Nat → World → Array Value → Prop} {V : World → Prop} {U : Nat → Prop} (h : IterG P g lb Sy N A V U) : IterG P g lb Sy N (fun s0 k s m X args => k < N s0 ∧ A s0 k s m X args) V U :=
  fun l J Jx W γ0 a b c d e f hround h0 => h l J Jx W γ0 a b c d e f (fun k γ X0 X args hk h1 h2 h3 h4 h5 h6 => hround k γ X0 X args hk h1 h2 h3 h4 h5 ⟨hk, h6⟩) h0
theorem rowD_nil (n : Nat) : rowD n [] = true := rfl
theorem match_stretch (n : Nat) (ts : List (List Int)) (lo hi : Int) : matchD n ts [] [] lo hi = List.range' lo.toNat ((min hi (ts.length : Int)).toNat - lo.toNat) := by
  unfold matchD
  rw [if_pos (by rw [rowD_nil]; rfl)]
  have h : ∀ m : Nat, (List.range m).filter (hitAt ts [] [] lo hi) = List.range' lo.toNat ((min hi (m : Int)).toNat - lo.toNat) := by
    intro m
    induction m with
    | zero =>
      have : (min hi ((0 : Nat) : Int)).toNat = 0 := by omega
      rw [this, Nat.zero_sub]; rfl
    | succ m ih =>
      rw [filter_range, ih]
      have hk : keyedD (ts.getD m []) [] [] = true := rfl
      unfold hitAt
      rw [hk, Bool.and_true]
      by_cases h1 : lo ≤ (m : Int) ∧ (m : Int) < hi
      · rw [if_pos (by rw [decide_eq_true h1.1, decide_eq_true h1.2]; rfl)]
        have e1 : (min hi (m : Int)).toNat = m := by omega
        have e2 : (min hi ((m + 1 : Nat) : Int)).toNat = m + 1 := by omega
        have e3 : m + 1 - lo.toNat = (m - lo.toNat) + 1 := by omega
        rw [e1, e2, e3, List.range'_concat]
        congr 2
        omega
      · rw [if_neg (by
          intro hh
          rw [Bool.and_eq_true, decide_eq_true_eq, decide_eq_true_eq] at hh
          exact h1 hh), List.append_nil]
        congr 1
        omega
  exact h ts.length

theorem relAll_it (w : World) (B n P KM : Nat) (lo hi : Int) : Calls Try.prog 12 #[.pointer (some ⟨B, 0, none⟩), .int .i64 lo, .int .i64 hi] w fun e w' =>
    ∃ gf lb N A V U, e = .returned (.func (.func gf) #[] lb) ∧ Keep (fun _ => True) w w' ∧ ItP B n P KM gf lb (fun ts => matchD n ts [] [] lo hi) N A V U w.heap.size w' := by
  refine (relAll_any w B lo hi).mono ?_
  rintro e w' ⟨rfl, hK, hV⟩
  refine ⟨35, _, allN lo hi, (fun s0 k s m X args => k < allN lo hi s0 ∧ ∃ t, s0.ts[lo.toNat + k]? = some t ∧ Told (lo.toNat + k) t m X args), AllV (w.heap.size + 1) (w.heap.size + 2) w.heap.size lo hi B, fun b => b = w.heap.size + 1 ∨ b = w.heap.size + 2 ∨ b = w.heap.size, rfl, hK, ?_⟩
  refine ⟨enters Try.func35 (by kernel_rfl) rfl, iterG_U (iterG_A (relAll_iter B n P KM (w.heap.size + 1) (w.heap.size + 2) w.heap.size lo hi)) (fun b h => h.elim), hV, fun X Y hv hk => hv.keep hk (.inl rfl) (.inr (.inl rfl)) (.inr (.inr rfl)), fun b hb => ?_, fun s => ?_, fun s k s' m X args h => ?_, fun s k s' m X args h => ?_⟩
  · have h1 := heap_lt hV.1
    have h2 := heap_lt hV.2.1
    have h3 := heap_lt hV.2.2
    rcases hb with h | h | h <;> omega
  · rw [match_stretch, List.length_range']; rfl
  · obtain ⟨hk, t, ht, hto⟩ := h
    refine ⟨lo.toNat + k, t, ?_, ht, hto⟩
    rw [match_stretch, List.getElem?_eq_getElem (by rw [List.length_range']; exact hk), List.getElem_range']
    simp
  · obtain ⟨_, t, _, v, rfl, _⟩ := h
    rfl

theorem relMatch_it (w : World) (B n P KM m : Nat) (vc vk : Value) (cols key : List Int) (lo hi : Int) (hs : IntsIn m w vc cols) (hsk : IntsIn m w vk key) (hm : m ≤ w.heap.size) (hok : okT key) :
    Calls Try.prog 10 #[.pointer (some ⟨B, 0, none⟩), vc, vk, .int .i64 lo, .int .i64 hi] w fun e w' =>
    ∃ gf lb N A V U, e = .returned (.func (.func gf) #[] lb) ∧ Keep (fun _ => True) w w' ∧ ItP B n P KM gf lb (fun ts => matchD n ts cols key lo hi) N A V U w.heap.size w' := by
  obtain ⟨_, _, _, hlc, _, _⟩ := id hs
  obtain ⟨_, _, _, hlk, _, _⟩ := id hsk
  refine (relMatch_any w B m vc vk cols key lo hi hs hsk hm).mono ?_
  rintro e w' ⟨bR, bL, bK, bT, bF, vl, vk', rfl, hK, hV⟩
  refine ⟨32, _, (fun s => (matchD n s.ts cols key lo hi).length), (fun s0 k s m X args => ∃ i t, (matchD n s0.ts cols key lo hi)[k]? = some i ∧ s0.ts[i]? = some t ∧ Told i t m X args), MatchV w.heap.size w'.heap.size bR bL bK bT bF B vl vk' lo hi cols key, fun b => w.heap.size ≤ b ∧ b < w'.heap.size, rfl, hK, ?_⟩
  exact ⟨enters Try.func32 (by kernel_rfl) rfl, relMatch_iter B n P KM w.heap.size w'.heap.size bR bL bK bT bF vl vk' lo hi cols key hok hlc hlk, hV, fun X Y hv hk => hv.keep hk (fun b h1 h2 => ⟨h1, h2⟩), fun b hb => hb, fun s => rfl, fun s k s' m X args h => h, fun s k s' m X args h => by
    obtain ⟨i, t, _, _, v, rfl, _⟩ := h
    rfl⟩

theorem goes_it {B n P KM : Nat} {s0 : RelS} {F : Nat → Prop} {Bf : Nat} {vL : Value} {svs : List Value} {w : World} (leave : Int) (hb : Both B n P KM s0 F Bf vL svs w) {gf : Nat} {lb : Array Value} {places : List (List Int) → List Nat} {N : RelS → Nat} {A : RelS → Nat → RelS → Nat → World → Array Value → Prop} {V : World → Prop} {U : Nat → Prop} {n0 : Nat}
    (hi : ItP B n P KM gf lb places N A V U n0 w) (hn0 : ∀ b, n0 ≤ b → s0.tag b = none) (hpl : (places s0.ts).length ≤ s0.ts.length) (vp : Value) (hp : w.ownsRow 0 3 1 vp (places s0.ts).length ((places s0.ts).map natV)) (hpo : ∀ b, vp.ownBlock = some b → s0.tag b = none) :
    Calls Try.prog 15 #[.func (.func gf) #[] lb, .pointer (some ⟨Bf, 0, none⟩), vp, .int .i64 leave] w fun e w' => e = .returned (.bool true) ∧
      ∃ s', RelInv B n P KM s' w' ∧ RelSame s0 w s' w' :=
  goes_any leave hb gf lb hi.eg N A V U hi.it hi.v hi.vu (fun b hb => ⟨(hi.u b hb).2, hn0 b (hi.u b hb).1⟩) (places s0.ts) (by have := hb.rel.few; omega) vp hp hpo (fun s hs => by rw [hi.n, hs])
    (fun s k s' m X args hs h => by
      obtain ⟨i, t, h1, h2, h3⟩ := hi.a s k s' m X args h
      rw [hs] at h1 h2
      exact ⟨i, t, h1, h2, h3⟩) hi.two
end Go.Proofs

/- Layer 4, the law RelationPlays: iterators of a relation that is not there; goes of one. -/
namespace Go.Proofs
open Go.RowKit Go.Ink
set_option linter.unusedVariables false
set_option linter.unusedSimpArgs false
attribute [local go_sem] Oper.semAt_some

/-- the boxes of Match's own variables, from n0 to n1 -/
structure MatchN (n0 n1 bR bL bK bT bF : Nat) (vl vk : Value) (lo hi : Int) (cols key : List Int) (w : World) : Prop where
  r : BoxAt w bR 24 (.pointer none)
  l : BoxAt w bL 23 vl
  k : BoxAt w bK 23 vk
  t : BoxAt w bT 3 (.int .i64 hi)
  f : BoxAt w bF 3 (.int .i64 lo)
  ol : w.ownsRow n0 3 1 vl cols.length (cols.map (.int .i64))
  ok : w.ownsRow n0 3 1 vk key.length (key.map (.int .i64))
  bl : ∀ b, vl.ownBlock = some b → b < n1
  bk : ∀ b, vk.ownBlock = some b → b < n1
  at' : (n0 ≤ bR ∧ bR < n1) ∧ (n0 ≤ bL ∧ bL < n1) ∧ (n0 ≤ bK ∧ bK < n1) ∧ (n0 ≤ bT ∧ bT < n1) ∧ (n0 ≤ bF ∧ bF < n1)
theorem MatchN.keep {n0 n1 bR bL bK bT bF : Nat} {vl vk : Value} {lo hi : Int} {cols key : List Int} {w w' : World} {C : Nat → Prop} (h : MatchN n0 n1 bR bL bK bT bF vl vk lo hi cols key w) (hK : Keep C w w') (hC : ∀ b, n0 ≤ b → b < n1 → C b) : MatchN n0 n1 bR bL bK bT bF vl vk lo hi cols key w' := by
  obtain ⟨a1, a2, a3, a4, a5⟩ := h.at'
  exact ⟨h.r.keep hK (hC _ a1.1 a1.2), h.l.keep hK (hC _ a2.1 a2.2), h.k.keep hK (hC _ a3.1 a3.2), h.t.keep hK (hC _ a4.1 a4.2), h.f.keep hK (hC _ a5.1 a5.2),
    own_kept h.ol hK (fun b hb => hC b (World.ownsRow.lt h.ol b hb).1 (h.bl b hb)), own_kept h.ok hK (fun b hb => hC b (World.ownsRow.lt h.ok b hb).1 (h.bk b hb)), h.bl, h.bk, h.at'⟩

set_option maxRecDepth 100000 in
set_option maxHeartbeats 2000000 in
theorem relMatchN_any (w : World) (m : Nat) (vc vk : Value) (cols key : List Int) (lo hi : Int) (hs : IntsIn m w vc cols) (hsk : IntsIn m w vk key) (hm : m ≤ w.heap.size) :
    Calls Try.prog 10 #[.pointer none, vc, vk, .int .i64 lo, .int .i64 hi] w fun e w' => ∃ bR bL bK bT bF vl vk',
      e = .returned (.func (.func 32) #[] #[.pointer (some ⟨bR, 0, none⟩), .pointer (some ⟨bL, 0, none⟩), .pointer (some ⟨bK, 0, none⟩), .pointer (some ⟨bT, 0, none⟩), .pointer (some ⟨bF, 0, none⟩)]) ∧
      Keep (fun _ => True) w w' ∧ MatchN w.heap.size w'.heap.size bR bL bK bT bF vl vk' lo hi cols key w' := by
  obtain ⟨a, cc, rfl, hlt, hct, het⟩ := id hs
  obtain ⟨ak, ck, rfl, hltk, hctk, hetk⟩ := id hsk
  obtain ⟨W0, hW0⟩ : ∃ W0, ((w.alloc (.cells #[.pointer none] 24)).alloc (.cells #[.int .i64 lo] 3)).alloc (.cells #[.int .i64 hi] 3) = W0 := ⟨_, rfl⟩
  have k0 : Keep (fun _ => True) w W0 := by rw [← hW0]; exact ((Keep.alloc _ _ _).trans (Keep.alloc _ _ _)).trans (Keep.alloc _ _ _)
  have z0 : W0.heap.size = w.heap.size + 3 := by rw [← hW0]; simp
  have r0 : BoxAt W0 w.heap.size 24 (.pointer none) := by rw [← hW0]; unfold BoxAt; simp only [alloc_get, World.size_alloc]; simp <;> omega
  have f0 : BoxAt W0 (w.heap.size + 1) 3 (.int .i64 lo) := by rw [← hW0]; unfold BoxAt; simp only [alloc_get, World.size_alloc]; simp <;> omega
  have t0 : BoxAt W0 (w.heap.size + 2) 3 (.int .i64 hi) := by rw [← hW0]; unfold BoxAt; simp only [alloc_get, World.size_alloc]; simp <;> omega
  have app0 : ∀ (W : World) (a : Option Addr) (c : Nat) (l : List Int), l.length ≤ 1073741824 → IntsIn m W (.slice a l.length c) l → m ≤ W.heap.size → ∃ a' c' W', (Builtin.append_ #[23, 23] 23 #[.slice (some ⟨W.heap.size, 0, none⟩) 0 0, .slice a l.length c]).run Try.prog (W.alloc (.cells #[] 3)) = .ok (.slice a' l.length c') W' ∧
      W'.ownsRow W.heap.size 3 1 (.slice a' l.length c') l.length (l.map (.int .i64)) ∧ Keep (fun _ => True) W W' := by
    intro W a c l hl hi hmW
    have k1 : Keep (fun _ => True) W (W.alloc (.cells #[] 3)) := Keep.alloc _ _ _
    have ho1 : (W.alloc (.cells #[] 3)).ownsRow W.heap.size 3 1 (.slice (some ⟨W.heap.size, 0, none⟩) 0 0) 0 [] := World.ownsRow_made W #[] 0 (Nat.le_refl _) (by simp [maxLen]) rfl
    have hi1 := ints_stay hi (m := m) (k1.mono fun _ _ _ => trivial) (Nat.le_refl _)
    have hcl := slice_cells (sz := 1) ic (fun _ => rfl) (by omega) (E := IntE) (fun b o x h j u hj => by
      have hj0 : j = 0 := by have := (List.getElem?_eq_some_iff.1 hj).1; simp [ic] at this; exact this
      subst hj0
      simp [ic] at hj
      subst hj
      exact h) hi1 rfl
    obtain ⟨va, W3, hr3, ho3, hg3, kw3⟩ := appA (P := Try.prog) el_int 23 ho1 a l.length c (l.flatMap ic) (flatMap_len _ 1 (fun _ => rfl) _) hcl.1 hcl.2 (flat_one _ (by simp [ic, Value.oneCell']) _) (by omega) (by simp)
    rw [ic_map, List.nil_append, Nat.zero_add] at ho3
    obtain ⟨a', c', rfl⟩ := own_form ho3
    exact ⟨a', c', W3, hr3, ho3, ((k1.mono fun _ _ _ => trivial).trans (kw3.mono (C' := fun b => b < W.heap.size) fun b _ h e => by have := (World.ownsRow.lt ho3 b e).1; omega)).mono fun b hb _ => hb⟩
  have hs0 := ints_stay hs (m := m) (k0.mono fun _ _ _ => trivial) (Nat.le_refl _)
  obtain ⟨al, cl, W2, hr2, ho2, k2⟩ := app0 W0 a cc cols hlt hs0 (by omega)
  have hz2 := k2.size
  have hsk2 := ints_stay (ints_stay hsk (m := m) (k0.mono fun _ _ _ => trivial) (Nat.le_refl _)) (m := m) (k2.mono fun _ _ _ => trivial) (Nat.le_refl _)
  obtain ⟨al', cl', W4, hr4, ho4, k4⟩ := app0 W2 ak ck key hltk hsk2 (by omega)
  have hz4 := k4.size
  obtain ⟨W5, hW5⟩ : ∃ W5, (W4.alloc (.cells #[.slice none 0 0] 23)).alloc (.cells #[.slice none 0 0] 23) = W5 := ⟨_, rfl⟩
  have k5 : Keep (fun _ => True) W4 W5 := by rw [← hW5]; exact (Keep.alloc _ _ _).trans (Keep.alloc _ _ _)
  have z5 : W5.heap.size = W4.heap.size + 2 := by rw [← hW5]; simp
  have l5 : BoxAt W5 W4.heap.size 23 (.slice none 0 0) := by rw [← hW5]; unfold BoxAt; simp only [alloc_get, World.size_alloc]; simp <;> omega
  have v5 : BoxAt W5 (W4.heap.size + 1) 23 (.slice none 0 0) := by rw [← hW5]; unfold BoxAt; simp only [alloc_get, World.size_alloc]; simp <;> omega
  obtain ⟨W6, hW6⟩ : ∃ W6, W5.setCell ⟨W4.heap.size, 0, none⟩ (.slice al cols.length cl) = W6 := ⟨_, rfl⟩
  have l6 : BoxAt W6 W4.heap.size 23 (.slice al cols.length cl) := by rw [← hW6]; exact set_box _ l5
  have k6 : Keep (fun b => b ≠ W4.heap.size) W5 W6 := by rw [← hW6]; exact Keep.setCell _ _ _ (by simp)
  have v6 := v5.keep k6 (by omega)
  obtain ⟨W7, hW7⟩ : ∃ W7, W6.setCell ⟨W4.heap.size + 1, 0, none⟩ (.slice al' key.length cl') = W7 := ⟨_, rfl⟩
  have v7 : BoxAt W7 (W4.heap.size + 1) 23 (.slice al' key.length cl') := by rw [← hW7]; exact set_box _ v6
  have k7 : Keep (fun b => b ≠ W4.heap.size + 1) W6 W7 := by rw [← hW7]; exact Keep.setCell _ _ _ (by simp)
  have l7 := l6.keep k7 (by omega)
  have k47 : Keep (fun b => b < W4.heap.size) W4 W7 := (k5.mono fun _ _ _ => trivial).trans ((k6.mono fun b _ h => by omega).trans (k7.mono fun b _ h => by omega))
  have k07 : Keep (fun _ => True) w W7 := ((k0.mono fun _ _ _ => trivial).trans ((k2.mono fun _ _ _ => trivial).trans ((k4.mono fun _ _ _ => trivial).trans (k47.mono (C' := fun b => b < w.heap.size) fun b _ h => by omega)))).mono fun b hb _ => hb
  have z7 : W7.heap.size = W5.heap.size := by rw [← hW7, ← hW6]; simp [World.setCell]
  have own2 : ∀ b, Value.ownBlock (.slice al cols.length cl) = some b → W0.heap.size ≤ b ∧ b < W2.heap.size := fun b hb => World.ownsRow.lt ho2 b hb
  have own4 : ∀ b, Value.ownBlock (.slice al' key.length cl') = some b → W2.heap.size ≤ b ∧ b < W4.heap.size := fun b hb => World.ownsRow.lt ho4 b hb
  have hV : MatchN w.heap.size W7.heap.size w.heap.size W4.heap.size (W4.heap.size + 1) (w.heap.size + 2) (w.heap.size + 1) (.slice al cols.length cl) (.slice al' key.length cl') lo hi cols key W7 := by
    have kk : Keep (fun b => b < W0.heap.size) W0 W7 := (k2.mono fun _ _ _ => trivial).trans ((k4.mono fun _ _ _ => trivial).trans (k47.mono fun b _ h => by omega))
    refine ⟨r0.keep kk (by omega), l7, v7, t0.keep kk (by omega), f0.keep kk (by omega), ?_, ?_, fun b hb => by have := own2 b hb; omega, fun b hb => by have := own4 b hb; omega, ⟨by omega, by omega⟩, ⟨by omega, by omega⟩, ⟨by omega, by omega⟩, ⟨by omega, by omega⟩, by omega, by omega⟩
    · have h1 := own_kept (own_kept ho2 k4 (fun _ _ => trivial)) k47 (fun b hb => by have := own2 b hb; omega)
      exact ⟨h1.1, h1.2.imp id (fun ⟨g, cap, cur, e1, e2, e3⟩ => ⟨g, cap, cur, e1, by omega, e3⟩)⟩
    · have h1 := own_kept ho4 k47 (fun b hb => by have := own4 b hb; omega)
      exact ⟨h1.1, h1.2.imp id (fun ⟨g, cap, cur, e1, e2, e3⟩ => ⟨g, cap, cur, e1, by omega, e3⟩)⟩
  have cl5 := l5.cell
  have cfl := box_free l5 0
  have cv6 := v6.cell
  have cfv := box_free v6 0
  obtain ⟨n0, hn0⟩ : ∃ n0, W0.heap.size = n0 := ⟨_, rfl⟩
  have hB4 : W4.heap.size < W5.heap.size := by omega
  have hB6 : W4.heap.size + 1 < W6.heap.size := v6.lt
  clear app0 hs0 ho2 hsk2 ho4 l5 v5 l6 v6 v7 l7 k47 k7 k6 k5 own2 own4 z7 z5 hz2 hz4 k0 k2 k4 r0 f0 t0 z0
  rw [hn0] at hr2
  have Xhs := Lib.hid hs
  have Xhsk := Lib.hid hsk
  have Xhet := Lib.hid het
  have Xhetk := Lib.hid hetk
  have Xhr2 := Lib.hid hr2
  have Xhr4 := Lib.hid hr4
  have XhV := Lib.hid hV
  have Xk07 := Lib.hid k07
  clear hs hsk het hetk hr2 hr4 hV k07
  go_enter Try.func10, Try.ntmps10
  go_wp2_with (first
    | (at_builtin; refine go_app (v := .slice (some ⟨n0, 0, none⟩) 0 0) (u := .slice a cols.length cc) (v' := .slice al cols.length cl) (w' := W2) rfl (.tmp 13) (.tmp 14) 23 rfl rfl rfl Xhr2.out ?_)
    | (at_builtin; refine go_app (v := .slice (some ⟨W2.heap.size, 0, none⟩) 0 0) (u := .slice ak key.length ck) (v' := .slice al' key.length cl') (w' := W4) rfl (.tmp 16) (.tmp 17) 23 rfl rfl rfl Xhr4.out ?_))
  go_ret
  exact ⟨_, _, _, _, _, _, _, rfl, Xk07.out, XhV.out⟩


set_option maxRecDepth 100000 in
theorem found_nil (vc vk : Value) (w : World) : Calls Try.prog 33 #[.pointer none, vc, vk] w fun e w' => e = .returned (.tuple #[.slice none 0 0, .bool false]) ∧ w' = w := by
  go_enter Try.func33, Try.ntmps33
  go_wp2_with fail
  refine (made_nil w).mono ?_
  rintro e w1 ⟨rfl, hw1⟩
  have hw1 := hw1.symm
  subst hw1
  go_wp2_with fail
  go_ret2
  exact ⟨rfl, rfl⟩

set_option maxRecDepth 100000 in
theorem relMatchN_iter (n0 n1 bR bL bK bT bF : Nat) (vl vk : Value) (lo hi : Int) (cols key : List Int) (l : Nat) (W : World) (hl : l < W.heap.size) (hV : MatchN n0 n1 bR bL bK bT bF vl vk lo hi cols key W) :
    Calls Try.prog 32 (#[.func (.yield l) #[] #[]] ++ #[.pointer (some ⟨bR, 0, none⟩), .pointer (some ⟨bL, 0, none⟩), .pointer (some ⟨bK, 0, none⟩), .pointer (some ⟨bT, 0, none⟩), .pointer (some ⟨bF, 0, none⟩)]) W fun e W' => (∃ v, e = .returned v) ∧ Keep (fun _ => True) W W' := by
  refine calls_of0 Try.func32 rfl ?_
  simp only [Try.ntmps32, List.size_toArray, List.length_cons, List.length_nil, Nat.reduceAdd, Nat.reduceSub, Array.replicate_succ, Array.replicate_zero, List.push_toArray, List.append_toArray, List.nil_append, List.cons_append]
  have cR := hV.r.cell
  have cL := hV.l.cell
  have cK := hV.k.cell
  have lR := hV.r.lt
  have lL := hV.l.lt
  have lK := hV.k.lt
  obtain ⟨a1, c1, rfl⟩ := own_form hV.ol
  obtain ⟨a2, c2, rfl⟩ := own_form hV.ok
  have XhV := Lib.hid hV
  clear hV
  gi_wp2
  refine ⟨trivial, rfl, (callsIn_wide.2 (found_nil _ _ W)).mono ?_⟩
  rintro e w1 ⟨rfl, hw1⟩
  have hw1 := hw1.symm
  subst hw1
  gi_wp2
  gi_loopw [20] (fun i wr => i = .int .i64 0 ∧ wr = W) (fun _ _ => 0)
  case atStart => exact ⟨rfl, rfl⟩
  case round =>
    obtain ⟨rfl, hwr⟩ := hrel
    have hwr := hwr.symm
    subst hwr
    gi_wp2
    go_end0
    exact ⟨⟨_, rfl⟩, Keep.refl _ _⟩

/-- the boxes of All's own variables -/
def AllVN (bF bT bR : Nat) (lo hi : Int) (w : World) : Prop :=
  w.heap[bF]? = some (.cells #[.int .i64 lo] 3 (0, 0)) ∧ w.heap[bT]? = some (.cells #[.int .i64 hi] 3 (0, 0)) ∧ w.heap[bR]? = some (.cells #[.pointer none] 24 (0, 0))
theorem AllVN.keep {bF bT bR : Nat} {lo hi : Int} {w w' : World} {C : Nat → Prop} (h : AllVN bF bT bR lo hi w) (hK : Keep C w w') (h1 : C bF) (h2 : C bT) (h3 : C bR) : AllVN bF bT bR lo hi w' := ⟨hK.heap h.1 h1, hK.heap h.2.1 h2, hK.heap h.2.2 h3⟩

set_option maxRecDepth 100000 in
theorem relAllN_any (w : World) (lo hi : Int) : Calls Try.prog 12 #[.pointer none, .int .i64 lo, .int .i64 hi] w fun e w' =>
    e = .returned (.func (.func 35) #[] #[.pointer (some ⟨w.heap.size + 1, 0, none⟩), .pointer (some ⟨w.heap.size + 2, 0, none⟩), .pointer (some ⟨w.heap.size, 0, none⟩)]) ∧ Keep (fun _ => True) w w' ∧ AllVN (w.heap.size + 1) (w.heap.size + 2) w.heap.size lo hi w' := by
  go_enter Try.func12, Try.ntmps12
  go_wp2
  go_ret
  refine ⟨rfl, ((Keep.alloc _ _ _).trans (Keep.alloc _ _ _)).trans (Keep.alloc _ _ _), ?_, ?_, ?_⟩ <;> (simp only [alloc_get, World.size_alloc]; simp) <;> omega

set_option maxRecDepth 100000 in
theorem relAllN_iter (bF bT bR : Nat) (lo hi : Int) (l : Nat) (W : World) (hl : l < W.heap.size) (hV : AllVN bF bT bR lo hi W) :
    Calls Try.prog 35 (#[.func (.yield l) #[] #[]] ++ #[.pointer (some ⟨bF, 0, none⟩), .pointer (some ⟨bT, 0, none⟩), .pointer (some ⟨bR, 0, none⟩)]) W fun e W' => (∃ v, e = .returned v) ∧ Keep (fun _ => True) W W' := by
  refine calls_of0 Try.func35 rfl ?_
  simp only [Try.ntmps35, List.size_toArray, List.length_cons, List.length_nil, Nat.reduceAdd, Nat.reduceSub, Array.replicate_succ, Array.replicate_zero, List.push_toArray, List.append_toArray, List.nil_append, List.cons_append]
  have cF : W.cell? ⟨bF, 0, none⟩ = some (.int .i64 lo) := by have := cells_of_block hV.1 0 _ rfl; simpa using this
  have cT : W.cell? ⟨bT, 0, none⟩ = some (.int .i64 hi) := by have := cells_of_block hV.2.1 0 _ rfl; simpa using this
  have cR : W.cell? ⟨bR, 0, none⟩ = some (.pointer none) := by have := cells_of_block hV.2.2 0 _ rfl; simpa using this
  have lF := heap_lt hV.1
  have lT := heap_lt hV.2.1
  have lR := heap_lt hV.2.2
  have hS0 := And.intro cF (And.intro cT cR)
  clear cF cT cR
  have XhV := Lib.hid hV
  have XhS0 := Lib.hid hS0
  clear hV hS0
  obtain ⟨a0, hmx, ha0⟩ : ∃ a0 : Int, (if 0 < lo then lo else 0) = a0 ∧ 0 ≤ a0 := ⟨_, rfl, by split <;> omega⟩
  obtain ⟨b0, hmn, hb0⟩ : ∃ b0 : Int, (if (0 : Int) < hi then (0 : Int) else hi) = b0 ∧ b0 ≤ 0 := ⟨_, rfl, by split <;> omega⟩
  gi_wp2
  refine wpIn_wide.2 ?_
  refine region_hoist rfl (fun W => W.cell? ⟨bF, 0, none⟩ = some (.int .i64 lo) ∧ W.cell? ⟨bT, 0, none⟩ = some (.int .i64 hi) ∧ W.cell? ⟨bR, 0, none⟩ = some (.pointer none)) [] ?_
  have hS1 : W.drew.cell? ⟨bF, 0, none⟩ = some (.int .i64 lo) ∧ W.drew.cell? ⟨bT, 0, none⟩ = some (.int .i64 hi) ∧ W.drew.cell? ⟨bR, 0, none⟩ = some (.pointer none) := XhS0.out
  have XhS1 := Lib.hid hS1
  have Xha0 := Lib.hid ha0
  have Xhb0 := Lib.hid hb0
  clear hS1 ha0 hb0
  refine hoist_take (i := 0) (v := ?_) rfl (by kernel_rfl) (by kernel_rfl) (by kernel_rfl) (by kernel_rfl) (fun _ _ _ h => h) XhS1.out (Or.inl ⟨by rfl, ?_⟩) ?_
  rotate_left
  · intro Wq hWq
    obtain ⟨x0, x1, x2⟩ := hWq
    go_simp
    try with_reducible rfl
  try simp only [Act.put, List.getElem_toArray, List.getElem_cons_zero, List.getElem_cons_succ, List.setIfInBounds_toArray, List.set_cons_zero, List.set_cons_succ]
  refine hoist_take (i := 2) (v := ?_) rfl (by kernel_rfl) (by kernel_rfl) (by kernel_rfl) (by kernel_rfl) (fun _ _ _ h => h) XhS1.out (Or.inl ⟨by rfl, ?_⟩) ?_
  rotate_left
  · intro Wq hWq
    obtain ⟨x0, x1, x2⟩ := hWq
    go_simp
    try with_reducible rfl
  try simp only [Act.put, List.getElem_toArray, List.getElem_cons_zero, List.getElem_cons_succ, List.setIfInBounds_toArray, List.set_cons_zero, List.set_cons_succ]
  refine hoist_take (i := 3) (v := ?_) rfl (by kernel_rfl) (by kernel_rfl) (by kernel_rfl) (by kernel_rfl) (fun _ _ _ h => h) XhS1.out (Or.inl ⟨by rfl, ?_⟩) ?_
  rotate_left
  · intro Wq hWq
    obtain ⟨x0, x1, x2⟩ := hWq
    go_simp
    try with_reducible rfl
  try simp only [Act.put, List.getElem_toArray, List.getElem_cons_zero, List.getElem_cons_succ, List.setIfInBounds_toArray, List.set_cons_zero, List.set_cons_succ]
  refine hoist_take (i := 1) (v := ?_) rfl (by kernel_rfl) (by kernel_rfl) (by kernel_rfl) (by kernel_rfl) (fun _ _ _ h => h) XhS1.out (Or.inl ⟨by rfl, ?_⟩) ?_
  rotate_left
  · intro Wq hWq
    obtain ⟨x0, x1, x2⟩ := hWq
    go_simp
    try with_reducible rfl
  try simp only [Act.put, List.getElem_toArray, List.getElem_cons_zero, List.getElem_cons_succ, List.setIfInBounds_toArray, List.set_cons_zero, List.set_cons_succ]
  refine hoist_one (i := 4) rfl (by kernel_rfl) (fun K hK => ?_)
  have XhK0 := Lib.hid hK
  clear hK
  go_wp2_with fail
  refine (relLen_nil _).mono ?_
  rintro e W1 ⟨rfl, hW1⟩
  subst hW1
  go_wp2_with fail
  refine XhK0.out _ _ (fun _ => XhS1.out) ?_
  refine hoist_take (i := 5) (v := ?_) rfl (by kernel_rfl) (by kernel_rfl) (by kernel_rfl) (by kernel_rfl) (fun _ _ _ h => h) XhS1.out (Or.inl ⟨by rfl, ?_⟩) ?_
  rotate_left
  · intro Wq hWq
    obtain ⟨x0, x1, x2⟩ := hWq
    go_simp
    try with_reducible rfl
  try simp only [Act.put, List.getElem_toArray, List.getElem_cons_zero, List.getElem_cons_succ, List.setIfInBounds_toArray, List.set_cons_zero, List.set_cons_succ]
  refine hoist_one (i := 6) rfl (by kernel_rfl) (fun K hK => ?_)
  have XhK1 := Lib.hid hK
  clear hK
  go_wp2_with fail
  refine XhK1.out _ _ (fun _ => XhS1.out) ?_
  refine hoist_one (i := 7) rfl (by kernel_rfl) (fun K hK => ?_)
  have XhK2 := Lib.hid hK
  clear hK
  go_wp2_with fail
  refine XhK2.out _ _ (fun _ => XhS1.out) ?_
  refine hoist_done (by kernel_rfl) ?_
  clear XhK0 XhK1 XhK2 XhS1 hmx hmn XhS0
  have hlt : ¬ a0 < b0 := by have := Xha0.out; have := Xhb0.out; omega
  gi_wp2
  gi_loopw [5] (fun i wr => i = .int .i64 a0 ∧ Keep (fun _ => True) W wr) (fun i _ => 0)
  case atStart => exact ⟨rfl, Keep.drew _ _⟩
  case round =>
    obtain ⟨rfl, hKr⟩ := hrel
    have XhKr := Lib.hid hKr
    clear hKr
    gi_wp2
    go_end0
    exact ⟨⟨_, rfl⟩, XhKr.out⟩

/-- an iterator that tells nothing, as it stands in memory -/
structure ItN (gf : Nat) (lb : Array Value) (V : World → Prop) (U : Nat → Prop) (n0 : Nat) (X : World) : Prop where
  eg : ∀ args w, (callFunc gf args).run Try.prog w = .ok (.enter gf args) w
  it : ∀ (l : Nat) (W : World), l < W.heap.size → V W → Calls Try.prog gf (#[.func (.yield l) #[] #[]] ++ lb) W fun e W' => (∃ v, e = .returned v) ∧ Keep (fun _ => True) W W'
  v : V X
  vu : ∀ X Y, V X → Keep U X Y → V Y
  u : ∀ b, U b → n0 ≤ b ∧ b < X.heap.size
theorem ItN.keep {gf : Nat} {lb : Array Value} {V : World → Prop} {U : Nat → Prop} {n0 : Nat} {X Y : World} {C : Nat → Prop} (h : ItN gf lb V U n0 X) (hK : Keep C X Y) (hC : ∀ b, n0 ≤ b → b < X.heap.size → C b) : ItN gf lb V U n0 Y :=
  ⟨h.eg, h.it, h.vu _ _ h.v (hK.mono fun b _ hb => hC b (h.u b hb).1 (h.u b hb).2), h.vu, fun b hb => ⟨(h.u b hb).1, Nat.lt_of_lt_of_le (h.u b hb).2 hK.size⟩⟩
theorem relAllN_it (w : World) (lo hi : Int) : Calls Try.prog 12 #[.pointer none, .int .i64 lo, .int .i64 hi] w fun e w' =>
    ∃ gf lb V U, e = .returned (.func (.func gf) #[] lb) ∧ Keep (fun _ => True) w w' ∧ ItN gf lb V U w.heap.size w' := by
  refine (relAllN_any w lo hi).mono ?_
  rintro e w' ⟨rfl, hK, hV⟩
  refine ⟨35, _, AllVN (w.heap.size + 1) (w.heap.size + 2) w.heap.size lo hi, fun b => b = w.heap.size + 1 ∨ b = w.heap.size + 2 ∨ b = w.heap.size, rfl, hK, ?_⟩
  refine ⟨enters Try.func35 (by kernel_rfl) rfl, fun l W hl hV => relAllN_iter _ _ _ lo hi l W hl hV, hV, fun X Y hv hk => hv.keep hk (.inl rfl) (.inr (.inl rfl)) (.inr (.inr rfl)), fun b hb => ?_⟩
  have h1 := heap_lt hV.1
  have h2 := heap_lt hV.2.1
  have h3 := heap_lt hV.2.2
  rcases hb with h | h | h <;> omega
theorem relMatchN_it (w : World) (m : Nat) (vc vk : Value) (cols key : List Int) (lo hi : Int) (hs : IntsIn m w vc cols) (hsk : IntsIn m w vk key) (hm : m ≤ w.heap.size) :
    Calls Try.prog 10 #[.pointer none, vc, vk, .int .i64 lo, .int .i64 hi] w fun e w' =>
    ∃ gf lb V U, e = .returned (.func (.func gf) #[] lb) ∧ Keep (fun _ => True) w w' ∧ ItN gf lb V U w.heap.size w' := by
  refine (relMatchN_any w m vc vk cols key lo hi hs hsk hm).mono ?_
  rintro e w' ⟨bR, bL, bK, bT, bF, vl, vk', rfl, hK, hV⟩
  refine ⟨32, _, MatchN w.heap.size w'.heap.size bR bL bK bT bF vl vk' lo hi cols key, fun b => w.heap.size ≤ b ∧ b < w'.heap.size, rfl, hK, ?_⟩
  exact ⟨enters Try.func32 (by kernel_rfl) rfl, fun l W hl hV => relMatchN_iter _ _ _ _ _ _ _ _ _ lo hi cols key l W hl hV, hV, fun X Y hv hk => hv.keep hk (fun b h1 h2 => ⟨h1, h2⟩), fun b hb => hb⟩
end Go.Proofs
