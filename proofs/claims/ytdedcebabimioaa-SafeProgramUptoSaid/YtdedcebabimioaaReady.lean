/- safe.ready and safe.Ready: can a literal be looked at? -/
import Derived.Test.YtdedcebabimioaaProg
import Derived.Test.YtdedcebabimioaaSet
import Derived.Test.YtdedcebabimioaaTerms
import Derived.Test.YtdedcebabimioaaWays
namespace Go.Proofs
open Go.RowKit Go.Ink
set_option linter.unusedVariables false
set_option linter.unusedSimpArgs false
attribute [local go_sem] Oper.semAt_some


theorem uses_all {L : LitD} {s : List ByteArray} : (L.uses.all fun x => decide (x ∈ s)) = true ↔ ∀ t, t ∈ L.terms → t.var = true → t.text ∈ s := by
  simp only [LitD.uses, List.all_eq_true, decide_eq_true_eq, List.mem_map, List.mem_filter]
  constructor
  · intro h t ht hv; exact h _ ⟨t, ⟨ht, hv⟩, rfl⟩
  · rintro h x ⟨t, ⟨ht, hv⟩, rfl⟩; exact h t ht hv

/-- what the loop of ready leans on -/
structure ReadySt (n1 Bb Bm M : Nat) (w : World) (s : List ByteArray) (W : World) : Prop where
  bbox : ∃ u, W.heap[Bb]? = some (.cells #[.bool u] 4 (0, 0))
  mbox : W.heap[Bm]? = some (.cells #[.map (some M)] 67 (0, 0))
  set : SetIn W M s
  old : Keep (fun k => k < n1) w W
theorem ReadySt.keep {n1 Bb Bm M : Nat} {w : World} {s : List ByteArray} {W W' : World} {C : Nat → Prop} (h : ReadySt n1 Bb Bm M w s W) (hK : Keep C W W')
    (h2 : C Bb) (h3 : C Bm) (h4 : C M) (hn : ∀ b, b < n1 → C b) : ReadySt n1 Bb Bm M w s W' := by
  obtain ⟨⟨u', b⟩, c, d, e⟩ := h
  exact ⟨⟨u', hK.heap b h2⟩, hK.heap c h3, d.keep hK h4, e.trans (hK.mono fun b _ hb => hn b hb)⟩

set_option maxRecDepth 100000 in
set_option maxHeartbeats 2000000 in
theorem ready_any (L : LitD) (sa : Value) (M : Nat) (s : List ByteArray) (w : World) (hsa : TermsIn w.heap.size w sa L.atom.args) (hS : SetIn w M s) :
    Calls Try.prog 33 #[.agg (litCells L sa).toArray, .map (some M)] w fun e w' => e = .returned (.bool (readyD L s)) ∧ Keep (fun k => k < w.heap.size) w w' := by
  unfold litCells
  refine calls_of Try.func33 rfl ?_
  simp only [Try.ntmps33, List.size_toArray, List.length_cons, List.length_nil, Nat.reduceAdd, Nat.reduceSub, Array.replicate_succ, Array.replicate_zero, List.push_toArray, List.append_toArray, List.nil_append, List.cons_append]
  obtain ⟨aa, cap, rfl, hlen, hcap, hel⟩ := id hsa
  have hM := hS.lt
  have Xhsa := Lib.hid hsa
  have Xhel := Lib.hid hel
  have XhS := Lib.hid hS
  clear hsa hel hS
  have hw0 : w.heap.size < w.heap.size + 1 + 1 + 1 := by omega
  by_cases h1 : (L.kind == 1) = true
  · have hans : readyD L s = true := by simp [readyD, h1]
    have Xhans := Lib.hid hans
    clear hans
    gi_wp2
    have k3 : Keep (fun b => b < w.heap.size) w (((w.alloc (.cells (litCells L (.slice aa L.atom.args.length cap)).toArray 37)).alloc (.cells #[.map (some M)] 67)).alloc (.cells #[.bool true] 4)) :=
      ((Keep.alloc _ _ _).trans (Keep.alloc _ _ _)).trans (Keep.alloc _ _ _)
    have q2 := box_cell (new_block ((w.alloc (.cells (litCells L (.slice aa L.atom.args.length cap)).toArray 37)).alloc (.cells #[.map (some M)] 67)) (.cells #[.bool true] 4))
    simp only [World.size_alloc] at q2
    refine leaves_nil (v := .bool true) (by simp only [litCells] at q2; simp [results, Try.results33, go_sem, q2]) ⟨by rw [Xhans.out], k3⟩
  · have h1 : (L.kind == 1) = false := by simpa using h1
    have hk : ((L.kind == 2) = true) ∨ ((L.kind == 2) = false ∧ (L.kind == 3) = true) ∨ ((L.kind == 2) = false ∧ (L.kind == 3) = false) := by
      cases h2 : (L.kind == 2) <;> cases h3 : (L.kind == 3) <;> simp
    rcases hk with h2 | ⟨h2, h3⟩ | ⟨h2, h3⟩
    case inr.inr =>
      have hans : readyD L s = false := by simp [readyD, h1, h2, h3]
      have Xhans := Lib.hid hans
      clear hans
      gi_wp2
      have k3 : Keep (fun b => b < w.heap.size) w (((w.alloc (.cells (litCells L (.slice aa L.atom.args.length cap)).toArray 37)).alloc (.cells #[.map (some M)] 67)).alloc (.cells #[.bool false] 4)) :=
        ((Keep.alloc _ _ _).trans (Keep.alloc _ _ _)).trans (Keep.alloc _ _ _)
      have q2 := box_cell (new_block ((w.alloc (.cells (litCells L (.slice aa L.atom.args.length cap)).toArray 37)).alloc (.cells #[.map (some M)] 67)) (.cells #[.bool false] 4))
      simp only [World.size_alloc] at q2
      refine leaves_nil (v := .bool false) (by simp only [litCells] at q2; simp [results, Try.results33, go_sem, q2]) ⟨by rw [Xhans.out], k3⟩
    all_goals
      have hans : readyD L s = L.uses.all fun x => decide (x ∈ s) := by first | (simp [readyD, h1, h2]; done) | (simp [readyD, h1, h2, h3]; done)
      have Xhans := Lib.hid hans
      clear hans
      gi_wp2
      refine ⟨trivial, rfl, (callsIn_wide.2 (terms_any L (.slice aa L.atom.args.length cap) _)).mono ?_⟩
      rintro e w' ⟨rfl, rfl⟩
      gi_wp2
      refine wpIn_abs (fun Wr => Keep (fun _ => True) w Wr ∧ Wr.heap.size = w.heap.size + 1 + 1 + 1 + 1 ∧ Wr.heap[w.heap.size + 1]? = some (.cells #[.map (some M)] 67 (0, 0)) ∧
          Wr.heap[w.heap.size + 1 + 1]? = some (.cells #[.bool false] 4 (0, 0)) ∧ Wr.heap[w.heap.size + 1 + 1 + 1]? = some (.cells (litCells L (.slice aa L.atom.args.length cap)).toArray 37 (0, 0)))
        ⟨(((Keep.alloc _ _ _).trans (Keep.alloc _ _ _)).trans (Keep.alloc _ _ _)).trans (Keep.alloc _ _ _), by simp, by simp only [alloc_get, World.size_alloc]; simp, by simp only [alloc_get, World.size_alloc]; simp, by simp only [alloc_get, World.size_alloc]; simp⟩ ?_
      rintro Wr ⟨kW, sW, b1, b2, b3⟩
      have htW := terms_keep Xhsa.out (kW.mono fun _ _ _ => trivial)
      have hst0 : ReadySt w.heap.size (w.heap.size + 1 + 1) (w.heap.size + 1) M w s Wr := ⟨⟨_, b2⟩, b1, XhS.out.keep kW trivial, kW.mono fun _ _ _ => trivial⟩
      refine range_outer (gf := 41) (lb := #[.pointer (some ⟨w.heap.size + 1 + 1 + 1, 0, none⟩)]) rfl (enters Try.func41 (by kernel_rfl) rfl)
        (terms1_iter w.heap.size (w.heap.size + 1 + 1 + 1) Wr L _ htW (by omega)) (fun _ => rfl) (fun _ h => h.elim)
        ⟨b3, Keep.refl _ _⟩ (fun X Y hv hK => ⟨hK.heap hv.1 (by omega), hv.2.trans (hK.mono fun b _ hb => by omega)⟩)
        (fun k O X => ReadySt w.heap.size (w.heap.size + 1 + 1) (w.heap.size + 1) M w s X ∧ ∀ t, t ∈ L.terms.take k → t.var = true → t.text ∈ s)
        (fun c k O X => IsRet c ∧ Keep (fun k => k < w.heap.size) w X ∧ (L.uses.all fun x => decide (x ∈ s)) = false ∧ X.heap[w.heap.size + 1 + 1]? = some (.cells #[.bool false] 4 (0, 0))) ?hI ?hIx ?h0 ?round ?done ?stop
      case hI =>
        rintro k O X Y ⟨h, hh⟩ hK
        exact ⟨h.keep hK (.inl ⟨by omega, fun h => h⟩) (.inl ⟨by omega, fun h => h⟩) (.inl ⟨by omega, fun h => h⟩) (fun b hb => .inl ⟨by omega, fun h => h⟩), hh⟩
      case hIx =>
        rintro c k O X Y ⟨hc, hk, h1, h2⟩ hK
        exact ⟨hc, hk.trans (hK.mono fun b _ hb => .inl ⟨by omega, fun h => h⟩), h1, hK.heap h2 (.inl ⟨by omega, fun h => h⟩)⟩
      case h0 => exact ⟨hst0, by simp⟩
      case round =>
        intro lr k O X hBl hlX hOl hk hI hV hsz
        obtain ⟨t, ht'⟩ : ∃ t, L.terms[k]? = some t := ⟨_, List.getElem?_eq_getElem hk⟩
        have ht : L.terms.getD k default = t := by simp [List.getD, ht']
        obtain ⟨tv, tt⟩ := t
        clear b1 b2 b3 kW hst0
        simp only [ht, TermD.val]
        have XhI := Lib.hid hI
        have Xht := Lib.hid ht
        have Xht' := Lib.hid ht'
        have XhV := Lib.hid hV
        have Xhk := Lib.hid hk
        have XhOl := Lib.hid hOl
        have XhtW := Lib.hid htW
        clear hI ht ht' hV hk hOl htW
        gi_wp2
        refine ⟨Keep.alloc _ _ _, fun Y hY hYs hYl => ?_⟩
        have hXY : Keep (fun b => b ≠ lr) X Y := (Keep.alloc _ X _).trans hY
        have nt := hY.heap (new_block X (.cells #[.bool tv, .string tt] 35)) (show X.heap.size ≠ lr by omega)
        have hIY := XhI.out.1.keep hXY (by omega) (by omega) (by omega) (fun b hb => by omega)
        have hVY : termsV w.heap.size (w.heap.size + 1 + 1 + 1) Wr (litCells L (.slice aa L.atom.args.length cap)).toArray Y := ⟨hXY.heap XhV.out.1 (by omega), XhV.out.2.trans (hXY.mono fun b _ hb => by omega)⟩
        have f3 := cells_of_block nt 0 _ rfl
        have f4 := cells_of_block nt 1 _ rfl
        simp only [Nat.zero_add, Nat.add_zero] at f3 f4
        have hYs' : Y.heap.size = X.heap.size + 1 := by simpa using hYs
        obtain ⟨⟨ub, p2⟩, p3, p4, p5⟩ := id hIY
        have d2 := box_cell p3
        have hbm : w.heap.size + 1 < Y.heap.size := heap_lt p3
        have hbb : w.heap.size + 1 + 1 < Y.heap.size := heap_lt p2
        have htk : L.terms.take (k + 1) = L.terms.take k ++ [⟨tv, tt⟩] := by rw [List.take_add_one, Xht'.out]; rfl
        have hlk := run_lookup_set (P := Try.prog) (T := 67) (K := 9) (E := 4) Try.underlying67 Try.underlying9 (fun _ => by kernel_rfl) p4 tt
        have hgo : ((tv = true → tt ∈ s)) → bodyEnd Wr.heap.size X.heap.size (termsV w.heap.size (w.heap.size + 1 + 1 + 1) Wr (litCells L (.slice aa L.atom.args.length cap)).toArray) O Y Y
            (fun O' => ReadySt w.heap.size (w.heap.size + 1 + 1) (w.heap.size + 1) M w s Y ∧ ∀ t, t ∈ L.terms.take (k + 1) → t.var = true → t.text ∈ s) := fun hin =>
          ⟨O, fun _ h => h, fun _ h => .inl h, Keep.refl _ _, hVY, hIY, fun x hx hv => by
            rw [htk] at hx
            rcases List.mem_append.1 hx with h | h
            · exact XhI.out.2 x h hv
            · simp at h; subst h; exact hin hv⟩
        cases tv with
        | false =>
          have hf := hgo (fun h => by cases h)
          clear hgo hIY hVY nt p2 p3 p4 p5 htk hY hYs hYl hlk hXY
          have Xhf := Lib.hid hf
          clear hf
          gi_wp2
          first | exact Xhf.out | (refine ⟨fun _ h => (by cases h), ?_⟩; gi_wp2; exact Xhf.out)
        | true =>
          by_cases hin : tt ∈ s
          · have hin' : decide (tt ∈ s) = true := by simpa using hin
            rw [hin'] at hlk
            have hf := hgo (fun _ => hin)
            clear hgo hIY hVY nt p2 p3 p4 p5 htk hY hYs hYl hin hin' hXY
            have Xhf := Lib.hid hf
            clear hf
            gi_wp2
            exact Xhf.out
          · have hin' : decide (tt ∈ s) = false := by simpa using hin
            rw [hin'] at hlk
            have hno : (L.uses.all fun x => decide (x ∈ s)) = false := by
              cases h : (L.uses.all fun x => decide (x ∈ s)) with
              | false => rfl
              | true => exact absurd (uses_all.1 h _ (List.mem_of_getElem? Xht'.out) rfl) hin
            have d4 := box_cell p2
            have d4f := box_free p2 0
            have k3 : Keep (fun b => b ≠ w.heap.size + 1 + 1) Y (Y.setCell ⟨w.heap.size + 1 + 1, 0, none⟩ (.bool false)) := Keep.setCell _ _ _ (by simp)
            have hf : bodyEnd Wr.heap.size X.heap.size (termsV w.heap.size (w.heap.size + 1 + 1 + 1) Wr (litCells L (.slice aa L.atom.args.length cap)).toArray) O Y (Y.setCell ⟨w.heap.size + 1 + 1, 0, none⟩ (.bool false))
                (fun O' => IsRet .ret ∧ Keep (fun k => k < w.heap.size) w (Y.setCell ⟨w.heap.size + 1 + 1, 0, none⟩ (.bool false)) ∧ (L.uses.all fun x => decide (x ∈ s)) = false ∧
                  (Y.setCell ⟨w.heap.size + 1 + 1, 0, none⟩ (.bool false)).heap[w.heap.size + 1 + 1]? = some (.cells #[.bool false] 4 (0, 0))) :=
              ⟨O, fun _ h => h, fun _ h => .inl h, k3.mono (fun b _ h => by omega), ⟨k3.heap hVY.1 (by omega), hVY.2.trans (k3.mono fun b _ h => by omega)⟩, rfl, p5.trans (k3.mono fun b _ h => by omega), hno, set_box _ p2⟩
            clear hgo hIY hVY nt p2 p3 p4 p5 htk hY hYs hYl hin hin' hXY k3 hno
            have Xhf := Lib.hid hf
            clear hf
            gi_wp2
            exact Xhf.out
      case done =>
        rintro D O W hD hOD hWD hsd ⟨hI, hall⟩ hV
        have hyes : (L.uses.all fun x => decide (x ∈ s)) = true := uses_all.2 fun t ht hv => hall t (by rw [List.take_of_length_le (Nat.le_refl _)]; exact ht) hv
        obtain ⟨⟨ub, p2⟩, p3, p4, p5⟩ := id hI
        have d4 := box_cell p2
        have d4f := box_free p2 0
        have hbs : w.heap.size + 1 + 1 < W.heap.size := heap_lt p2
        clear b1 b2 b3 kW hst0
        have XhI := Lib.hid hI
        have Xp2 := Lib.hid p2
        have Xp3 := Lib.hid p3
        have Xp4 := Lib.hid p4
        have Xp5 := Lib.hid p5
        have XhV := Lib.hid hV
        have XhOD := Lib.hid hOD
        have XhWD := Lib.hid hWD
        have XhtW := Lib.hid htW
        have Xhall := Lib.hid hall
        have Xhyes := Lib.hid hyes
        clear hI p2 p3 p4 p5 hV hOD hWD htW hall hyes
        gi_wp2
        have k3 : Keep (fun b => b ≠ w.heap.size + 1 + 1) W (W.setCell ⟨w.heap.size + 1 + 1, 0, none⟩ (.bool true)) := Keep.setCell _ _ _ (by simp)
        refine leaves_marks [D] _ (by simp) (fun E hE => by simp at hE; subst hE; exact k3.heap XhWD.out (by omega)) (fun w' hK hs => ?_)
        have q2 := box_cell (hK.heap (set_box (.bool true) Xp2.out) (by simp; omega))
        refine leaves_nil (v := .bool true) (by simp [results, Try.results33, go_sem, q2]) ⟨by rw [Xhans.out, Xhyes.out], ?_⟩
        exact (Xp5.out.trans (k3.mono fun b _ h => by omega)).trans (hK.mono fun b _ h => by simp; omega)
      case stop =>
        rintro D c k O W hD hOD hWD hsd hk ⟨hret, hK, hno, q2⟩ hV
        obtain rfl : c = .ret := hret
        clear b1 b2 b3 kW hst0
        have XhK := Lib.hid hK
        have Xq2 := Lib.hid q2
        have XhV := Lib.hid hV
        have XhOD := Lib.hid hOD
        have XhWD := Lib.hid hWD
        have XhtW := Lib.hid htW
        have Xhno := Lib.hid hno
        clear hK q2 hV hOD hWD htW hno
        gi_wp2
        refine leaves_marks [D] _ (by simp) (fun E hE => by simp at hE; subst hE; exact XhWD.out) (fun w' hK hs => ?_)
        have q2 := box_cell (hK.heap Xq2.out (by simp; omega))
        refine leaves_nil (v := .bool false) (by simp [results, Try.results33, go_sem, q2]) ⟨by rw [Xhans.out, Xhno.out], ?_⟩
        exact XhK.out.trans (hK.mono fun b _ h => by simp; omega)
end Go.Proofs
