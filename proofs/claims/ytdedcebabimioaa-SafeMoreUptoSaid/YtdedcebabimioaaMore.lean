/- The law SafeMore: its walk. -/
import Derived.Test.YtdedcebabimioaaProg
import Derived.Test.YtdedcebabimioaaKnown
import Derived.Test.YtdedcebabimioaaCopyR
import Derived.Test.YtdedcebabimioaaHoist
import Derived.Test.YtdedcebabimioaaRead
namespace Go.Proofs
open Go.RowKit Go.Ink
set_option linter.unusedVariables false
set_option linter.unusedSimpArgs false
attribute [local go_sem] Oper.semAt_some

/-- what the loop puts for literal i -/
def mixAt (more : List LitD) (out : List Bool) (i : Nat) (L : LitD) : List LitD :=
  (match more[i]? with | some M => if M.kind == 1 then [M] else [] | none => []) ++ (if (out[i]?.getD false && L.kind != 1) = true then [] else [L])
def mixTo (body more : List LitD) (out : List Bool) : Nat → List LitD
  | 0 => []
  | k + 1 => mixTo body more out k ++ mixAt more out k (body.getD k default)

theorem mem_mixTo {body more : List LitD} {out : List Bool} : ∀ {k : Nat} {L : LitD}, k ≤ body.length → L ∈ mixTo body more out k → (L ∈ body ∨ (L ∈ more ∧ L.kind = 1)) := by
  intro k
  induction k with
  | zero => intro L _ h; simp [mixTo] at h
  | succ k ih =>
    intro L hk h
    simp only [mixTo, List.mem_append, mixAt] at h
    rcases h with h | h | h
    · exact ih (by omega) h
    · cases hm : more[k]? with
      | none => simp [hm] at h
      | some M =>
        rw [hm] at h
        by_cases hk1 : M.kind = 1
        · simp [hk1] at h; subst h; exact .inr ⟨List.mem_of_getElem? hm, hk1⟩
        · simp [hk1] at h
    · split at h
      · simp at h
      · simp at h
        subst h
        have : body[k]? = some body[k] := List.getElem?_eq_getElem (by omega)
        exact .inl (by rw [this]; exact List.getElem_mem _)
theorem mixTo_mem {body more : List LitD} {out : List Bool} : ∀ {k : Nat} {L : LitD}, k ≤ body.length → L ∈ body.take k → L.kind = 1 → L ∈ mixTo body more out k := by
  intro k
  induction k with
  | zero => intro L _ h; simp at h
  | succ k ih =>
    intro L hk h h1
    rw [List.take_succ_eq_append_getElem (by omega), List.mem_append] at h
    simp only [mixTo, List.mem_append, mixAt]
    rcases h with h | h
    · exact .inl (ih (by omega) h h1)
    · simp at h
      have hg : body.getD k default = L := by simp [List.getD, List.getElem?_eq_getElem (show k < body.length by omega), h]
      rw [hg]
      refine .inr (.inr ?_)
      simp [h1]

/-- THE PLAIN LAW: a safe rule stays safe. -/
theorem more_safe (r : RuleD) (more : List LitD) (out : List Bool) (h : looseOf r = none) : looseOf ⟨r.head, mixTo r.body more out r.body.length⟩ = none := by
  have hb : ∀ (body : List LitD) (x : ByteArray), x ∈ boundOf body ↔ ∃ L, L ∈ body ∧ L.kind = 1 ∧ x ∈ L.uses := by
    intro body x
    simp only [boundOf, onceL_mem, List.mem_flatMap, List.mem_filter, beq_iff_eq]
    constructor
    · rintro ⟨L, ⟨h1, h2⟩, h3⟩; exact ⟨L, h1, h2, h3⟩
    · rintro ⟨L, h1, h2, h3⟩; exact ⟨L, ⟨h1, h2⟩, h3⟩
  unfold looseOf at h ⊢
  rw [List.find?_eq_none] at h ⊢
  have hall : ∀ x, x ∈ r.names → x ∈ boundOf r.body := fun x hx => by simpa using h x hx
  have hsub : ∀ x, x ∈ boundOf r.body → x ∈ boundOf (mixTo r.body more out r.body.length) := fun x hx => by
    obtain ⟨L, h1, h2, h3⟩ := (hb _ _).1 hx
    exact (hb _ _).2 ⟨L, mixTo_mem (Nat.le_refl _) (by rw [List.take_length]; exact h1) h2, h2, h3⟩
  intro x hx
  have : x ∈ boundOf (mixTo r.body more out r.body.length) := by
    rw [names_eq, List.mem_append, List.mem_flatMap] at hx
    rcases hx with hx | ⟨L, hL, hx⟩
    · exact hsub x (hall x (by rw [names_eq, List.mem_append]; exact .inl hx))
    · rcases mem_mixTo (Nat.le_refl _) hL with h1 | ⟨h1, h2⟩
      · exact hsub x (hall x (by rw [names_eq, List.mem_append, List.mem_flatMap]; exact .inr ⟨L, h1, hx⟩))
      · exact (hb _ _).2 ⟨L, hL, h2, hx⟩
  simpa using this

/-- rules that lie in a block of their own -/
theorem rules_block (w : World) (t : TypeId) (rs : List (RuleD × Value × Value)) (hl : rs.length ≤ 1073741824) (h : ∀ p, p ∈ rs → RuleIn w.heap.size w p.2.1 p.2.2 p.1) :
    RulesIn (w.heap.size + 1) (w.alloc (.cells (rs.flatMap fun p => ruleCells p.1 p.2.1 p.2.2).toArray t)) (.slice (some ⟨w.heap.size, 0, none⟩) rs.length rs.length) (rs.map (·.1)) := by
  refine ⟨some ⟨w.heap.size, 0, none⟩, rs.length, by rw [List.length_map], by simpa using hl, ⟨by simp, by simp only [maxLen]; omega⟩, fun k x hk => ?_⟩
  rw [List.getElem?_map] at hk
  obtain ⟨p, hp, rfl⟩ := Option.map_eq_some_iff.1 hk
  refine ⟨w.heap.size, 0, rfl, by omega, p.2.1, p.2.2, fun j v hj => ?_, ((h p (List.mem_of_getElem? hp)).keep (Keep.alloc _ _ _)).wider (by omega)⟩
  have hj3 : j < 3 := (List.getElem?_eq_some_iff.1 hj).1
  have := cells_of_block (new_block w (.cells (rs.flatMap fun p => ruleCells p.1 p.2.1 p.2.2).toArray t)) (k * 3 + j) v (by
    show (rs.flatMap _)[k * 3 + j]? = some v
    rw [flatMap_at (fun p : RuleD × Value × Value => ruleCells p.1 p.2.1 p.2.2) 3 (fun _ => rfl) rs k j p hp hj3]; exact hj)
  simpa [Nat.add_assoc] using this

set_option maxRecDepth 100000 in
set_option maxHeartbeats 2000000 in
theorem safeMore_walk (r : RuleD) (sh sb vm vo : Value) (more : List LitD) (out : List Bool) (w : World) (hr : RuleIn w.heap.size w sh sb r) (hm : LitsIn w.heap.size w vm more) (ho : BoolsIn w.heap.size w vo out)
    (hf : RuleFits r) (hfit : ∀ k, k ≤ r.body.length → ((mixTo r.body more out k).flatMap LitD.uses).length ≤ 1073741824) (hlen : r.body.length ≤ 268435456) (hla : ∀ L, L ∈ r.body → L.atom.args.length ≤ 1073741824) :
    Calls Try.prog 3 #[.agg #[.string r.head.pred, sh, sb], vm, vo] w fun e w' => e = .returned (.bool true) ∧ Keep (fun k => k < w.heap.size) w w' := by
  obtain ⟨⟨ah, capH, rfl, hlenh, hcaph, helh⟩, ⟨ab, capB, rfl, hlenb, hcapb, helb⟩⟩ := id hr
  obtain ⟨am, capM, rfl, hlenm, hcapm, helm⟩ := id hm
  obtain ⟨ao, capO, rfl, hleno, hcapo, helo⟩ := id ho
  have Xhr := Lib.hid hr
  have Xhm := Lib.hid hm
  have Xho := Lib.hid ho
  have Xhelh := Lib.hid helh
  have Xhelb := Lib.hid helb
  have Xhelm := Lib.hid helm
  have Xhelo := Lib.hid helo
  have Xhf := Lib.hid hf
  have Xhfit := Lib.hid hfit
  have Xhla := Lib.hid hla
  clear hr hm ho helh helb helm helo hf hfit hla
  go_enter Try.func3, Try.ntmps3
  go_wp2_with fail
  have kA : Keep (fun _ => True) w (w.alloc (.cells (ruleCells r (.slice ah r.head.args.length capH) (.slice ab r.body.length capB)).toArray 27)) := Keep.alloc _ _ _
  have hr1 := (Xhr.out.keep (kA.mono fun _ _ _ => trivial)).wider (show w.heap.size ≤ (w.alloc (.cells (ruleCells r (.slice ah r.head.args.length capH) (.slice ab r.body.length capB)).toArray 27)).heap.size by simp)
  refine (rule_any r _ _ _ hr1 Xhf.out).mono ?_
  rintro e W1 ⟨rfl, k1⟩
  have z1 := k1.size
  simp only [World.size_alloc] at z1
  have a1 := k1.heap (new_block w _) (by simp)
  have kw1 : Keep (fun k => k < w.heap.size) w W1 := (Keep.alloc _ _ _).trans (k1.mono fun b _ h => by simp; omega)
  have hr2 := Xhr.out.keep kw1
  clear k1 hr1 kA
  cases hl : looseOf r with
  | some x =>
    simp only [ruleAns]
    clear hl a1 hr2
    have Xkw1 := Lib.hid kw1
    clear kw1
    go_wp2_with fail
    refine (known_any _).mono ?_
    rintro e W2 ⟨rfl, k2⟩
    have kw2 : Keep (fun k => k < w.heap.size) w W2 := Xkw1.out.trans (k2.mono fun b _ h => by omega)
    clear k2
    have Xkw2 := Lib.hid kw2
    clear kw2
    go_wp2_with fail
    go_ret
    exact ⟨rfl, Xkw2.out⟩
  | none =>
    simp only [ruleAns]
    have hsafe := more_safe r more out hl
    have c0 := cells_of_block a1 0 _ rfl
    have c1 := cells_of_block a1 1 _ rfl
    have c2 := cells_of_block a1 2 _ rfl
    simp only [Nat.zero_add, Nat.add_zero] at c0 c1 c2
    have Xhl := Lib.hid hl
    have Xkw1 := Lib.hid kw1
    have Xa1 := Lib.hid a1
    have Xhr2 := Lib.hid hr2
    have Xhsafe := Lib.hid hsafe
    clear hl kw1 a1 hr2 hsafe
    go_wp2_with fail
    refine (copyRule_any w.heap.size r _ _ W1 Xhr2.out (by omega)).mono ?_
    rintro e W2 ⟨vh, vb, rfl, k2, ct, cb⟩
    have z2 := k2.size
    have a2 := k2.heap Xa1.out (by omega)
    have kw2 : Keep (fun k => k < w.heap.size) w W2 := Xkw1.out.trans (k2.mono fun b _ h => by omega)
    obtain ⟨gh, caph, rfl, oh⟩ := id ct
    obtain ⟨gb, capb, psb, rfl, ob, hpsb, hptb⟩ := id cb
    clear c0 c1 c2 k2
    have Xct := Lib.hid ct
    have Xcb := Lib.hid cb
    have Xa2 := Lib.hid a2
    have Xkw2 := Lib.hid kw2
    have Xoh := Lib.hid oh
    have Xob := Lib.hid ob
    have Xhpsb := Lib.hid hpsb
    have Xhptb := Lib.hid hptb
    clear ct cb a2 kw2 oh ob hpsb hptb
    go_wp2_with fail
    refine wp_abs (fun W3 => Keep (fun _ => True) W2 W3 ∧ W3.heap.size = W2.heap.size + 1 + 1 ∧ W3.heap[W2.heap.size]? = some (.cells #[.string r.head.pred, .slice (some ⟨gh, 0, none⟩) r.head.args.length caph, .slice (some ⟨gb, 0, none⟩) r.body.length capb] 27 (0, 0)) ∧
       W3.heap[W2.heap.size + 1]? = some (.cells #[.string r.head.pred, .slice (some ⟨gh, 0, none⟩) r.head.args.length caph, .slice none 0 0] 27 (0, 0)))
       ⟨(Keep.alloc _ _ _).trans (Keep.alloc _ _ _), by simp, old_block (new_block _ _) _, by simpa using new_block (W2.alloc _) _⟩ ?_
    rintro W3 ⟨k3, s3, b0, b1⟩
    have hLm : LitsIn w.heap.size W3 (.slice am more.length capM) more := (lits_keep Xhm.out Xkw2.out).mono fun _ _ _ _ h => by
      obtain ⟨sa, h1, h2⟩ := h
      exact ⟨sa, fun j v hj => k3.cell (h1 j v hj) trivial, h2.mono fun _ _ _ _ h => ⟨k3.cell h.1 trivial, k3.cell h.2 trivial⟩⟩
    have hLc : LitsIn W2.heap.size W3 (.slice (some ⟨gb, 0, none⟩) r.body.length capb) r.body := (Xcb.out.lits (by omega) Xhla.out).mono fun _ _ _ _ h => by
      obtain ⟨sa, h1, h2⟩ := h
      exact ⟨sa, fun j v hj => k3.cell (h1 j v hj) trivial, h2.mono fun _ _ _ _ h => ⟨k3.cell h.1 trivial, k3.cell h.2 trivial⟩⟩
    have hgbw : gb < W2.heap.size := (own_cap Xob.out).2.2.1
    have Xk3 := Lib.hid k3
    have XhLm := Lib.hid hLm
    have XhLc := Lib.hid hLc
    have Xb0 := Lib.hid b0
    have Xb1 := Lib.hid b1
    clear k3 hLm hLc b0 b1
    go_loopw [11] (fun i wr => ∃ (k : Nat) (ps : List (LitD × Value)) (vs : Value), k ≤ r.body.length ∧ i = .int .i64 k ∧ Keep (fun j => j < W3.heap.size ∧ j ≠ W2.heap.size + 1) W3 wr ∧
       wr.heap[W2.heap.size + 1]? = some (.cells #[.string r.head.pred, .slice (some ⟨gh, 0, none⟩) r.head.args.length caph, vs] 27 (0, 0)) ∧ wr.ownsRow W3.heap.size 37 7 vs ps.length (ps.flatMap fun p => litCells p.1 p.2) ∧
       ps.map (·.1) = mixTo r.body more out k ∧ ps.length ≤ 2 * k ∧ ∀ p, p ∈ ps → TermsIn W2.heap.size W3 p.2 p.1.atom.args) (fun i _ => r.body.length - (intOf i).toNat)
    case atStart => exact ⟨0, [], .slice none 0 0, by omega, rfl, Keep.refl _ _, Xb1.out, World.ownsRow_nil _ _ _ _, rfl, by simp, by simp⟩
    case round =>
      obtain ⟨k, ps, vs, hk, rfl, hK, hsb, hO, hps, hpl, hpt⟩ := hrel
      have hws := hK.size
      have f0 := cells_of_block (hK.heap Xb0.out (by omega)) 2 _ rfl
      simp only [Nat.zero_add] at f0
      by_cases hlt : k < r.body.length
      · obtain ⟨L, hL⟩ : ∃ L, r.body[k]? = some L := ⟨_, List.getElem?_eq_getElem hlt⟩
        have hLd : r.body.getD k default = L := by simp [List.getD, hL]
        obtain ⟨b', off', hb', hbn, sa, hcl, hts⟩ := (show ∃ b off, some (⟨gb, 0, none⟩ : Addr) = some ⟨b, off, none⟩ ∧ b < W2.heap.size ∧ LitE W2.heap.size W3 b (off + k * 7) L from by
          obtain ⟨a, c, hv, _, _, he⟩ := XhLc.out
          cases hv
          exact he k L hL)
        cases hb'
        have g : ∀ j v, (litCells L sa)[j]? = some v → wr.cell? ⟨gb, 0 + k * 7 + j, none⟩ = some v := fun j v h => hK.cell (hcl j v h) ⟨show gb < W3.heap.size by omega, show gb ≠ W2.heap.size + 1 by omega⟩
        obtain ⟨aa, caps, rfl, hlens, hcaps, hels⟩ := id hts
        have d0 := g 0 _ rfl
        have d1 := g 1 _ rfl
        have d2 := g 2 _ rfl
        have d3 := g 3 _ rfl
        have d4 := g 4 _ rfl
        have d5 := g 5 _ rfl
        have d6 := g 6 _ rfl
        simp only [Nat.add_zero, Nat.zero_add] at d0 d1 d2 d3 d4 d5 d6
        have hA : (∃ M, more[k]? = some M ∧ M.kind = 1) ∨ (¬ k < more.length) ∨ (∃ M, more[k]? = some M ∧ M.kind ≠ 1) := by
          by_cases h : k < more.length
          · by_cases h1 : more[k].kind = 1
            · exact .inl ⟨_, List.getElem?_eq_getElem h, h1⟩
            · exact .inr (.inr ⟨_, List.getElem?_eq_getElem h, h1⟩)
          · exact .inr (.inl h)
        have hB : (¬ k < out.length) ∨ (out[k]? = some false) ∨ (out[k]? = some true ∧ L.kind ≠ 1) ∨ (out[k]? = some true ∧ L.kind = 1) := by
          by_cases h : k < out.length
          · rw [List.getElem?_eq_getElem h]
            cases out[k] with
            | false => exact .inr (.inl rfl)
            | true => by_cases h1 : L.kind = 1
                      · exact .inr (.inr (.inr ⟨rfl, h1⟩))
                      · exact .inr (.inr (.inl ⟨rfl, h1⟩))
          · exact .inl h
        clear g hcl hels
        rcases hA with ⟨M, hM, hM1⟩ | hA | ⟨M, hM, hM1⟩
        · obtain ⟨bm, om, rfl, hbm, sm, hclm, htsm⟩ := (show ∃ b off, am = some ⟨b, off, none⟩ ∧ b < w.heap.size ∧ LitE w.heap.size W3 b (off + k * 7) M from by
            obtain ⟨a, c, hv, _, _, he⟩ := XhLm.out
            cases hv
            exact he k M hM)
          have gm : ∀ j v, (litCells M sm)[j]? = some v → wr.cell? ⟨bm, om + k * 7 + j, none⟩ = some v := fun j v h => hK.cell (hclm j v h) ⟨show bm < W3.heap.size by omega, show bm ≠ W2.heap.size + 1 by omega⟩
          obtain ⟨xm, capm2, rfl, hlenm2, hcapm2, helm2⟩ := id htsm
          have m0 := gm 0 _ rfl
          have m1 := gm 1 _ rfl
          have m2 := gm 2 _ rfl
          have m3 := gm 3 _ rfl
          have m4 := gm 4 _ rfl
          have m5 := gm 5 _ rfl
          have m6 := gm 6 _ rfl
          simp only [Nat.add_zero] at m0
          have hltm : (k : Int) < more.length := by have := (List.getElem?_eq_some_iff.1 hM).1; omega
          have hbmw : bm < wr.heap.size := by omega
          have hmk : (M.kind == 1) = true := by simp [hM1]
          have htsm2 : TermsIn W2.heap.size W3 (.slice xm M.atom.args.length capm2) M.atom.args := terms_wider htsm (by omega)
          have hmix : mixTo r.body more out (k + 1) = (mixTo r.body more out k ++ [M]) ++ (if (out[k]?.getD false && L.kind != 1) = true then [] else [L]) := by rw [mixTo, hLd, mixAt, hM]; simp [hM1]
          clear gm hclm htsm helm2 hM hM1
          rcases hB with hB | hB | ⟨hB, hB1⟩ | ⟨hB, hB1⟩
          · have hlto : ¬ (k : Int) < out.length := by omega
            have hmix2 : mixTo r.body more out (k + 1) = (mixTo r.body more out k ++ [M]) ++ [L] := by
              have : out[k]? = none := List.getElem?_eq_none (by omega)
              rw [hmix]; simp [this]
            clear hmix hB hL hLd
            have s0 := cells_of_block hsb 2 _ rfl
            have sf := box_free hsb 2
            simp only [Nat.zero_add] at s0
            have hgbr : gb < wr.heap.size := by omega
            have XhK := Lib.hid hK
            have Xhsb := Lib.hid hsb
            have XhO := Lib.hid hO
            have Xhps := Lib.hid hps
            have Xhpt := Lib.hid hpt
            have Xhmix2 := Lib.hid hmix2
            have Xhts := Lib.hid hts
            have Xhtsm2 := Lib.hid htsm2
            clear hK hsb hO hps hpt hmix2 hts htsm2
            go_wp2_with fail
            refine region_hoist rfl (fun W => W.cell? ⟨bm, om + k * 7, none⟩ = some (.int .i64 M.kind) ∧ W.cell? ⟨bm, om + k * 7 + 1, none⟩ = some (.string M.atom.pred) ∧ W.cell? ⟨bm, om + k * 7 + 2, none⟩ = some (.slice xm M.atom.args.length capm2) ∧ W.cell? ⟨bm, om + k * 7 + 3, none⟩ = some (.bool M.left.var) ∧ W.cell? ⟨bm, om + k * 7 + 4, none⟩ = some (.string M.left.text) ∧ W.cell? ⟨bm, om + k * 7 + 5, none⟩ = some (.bool M.right.var) ∧ W.cell? ⟨bm, om + k * 7 + 6, none⟩ = some (.string M.right.text) ∧ W.cell? ⟨W2.heap.size + 1, 2, none⟩ = some vs) [8, 9] ?_
            have hS0 := And.intro m0 (And.intro m1 (And.intro m2 (And.intro m3 (And.intro m4 (And.intro m5 (And.intro m6 (s0)))))))
            have XhS0 := Lib.hid hS0
            clear hS0
            refine hoist_take (i := 0) (v := ?_) rfl (by kernel_rfl) (by kernel_rfl) (by kernel_rfl) (by kernel_rfl) (fun _ _ _ h => h) XhS0.out (Or.inl ⟨by rfl, ?_⟩) ?_
            rotate_left
            · intro Wq hWq
              obtain ⟨x0, x1, x2, x3, x4, x5, x6, x7⟩ := hWq
              go_simp
              try with_reducible rfl
            try simp only [Act.put, List.setIfInBounds_toArray, List.set_cons_zero, List.set_cons_succ]
            refine hoist_take (i := 1) (v := ?_) rfl (by kernel_rfl) (by kernel_rfl) (by kernel_rfl) (by kernel_rfl) (fun _ _ _ h => h) XhS0.out (Or.inl ⟨by rfl, ?_⟩) ?_
            rotate_left
            · intro Wq hWq
              obtain ⟨x0, x1, x2, x3, x4, x5, x6, x7⟩ := hWq
              go_simp
              try with_reducible rfl
            try simp only [Act.put, List.setIfInBounds_toArray, List.set_cons_zero, List.set_cons_succ]
            refine hoist_take (i := 2) (v := ?_) rfl (by kernel_rfl) (by kernel_rfl) (by kernel_rfl) (by kernel_rfl) (fun _ _ _ h => h) XhS0.out (Or.inl ⟨by rfl, ?_⟩) ?_
            rotate_left
            · intro Wq hWq
              obtain ⟨x0, x1, x2, x3, x4, x5, x6, x7⟩ := hWq
              go_simp
              try with_reducible rfl
            try simp only [Act.put, List.setIfInBounds_toArray, List.set_cons_zero, List.set_cons_succ]
            refine hoist_take (i := 3) (v := ?_) rfl (by kernel_rfl) (by kernel_rfl) (by kernel_rfl) (by kernel_rfl) (fun _ _ _ h => h) XhS0.out (Or.inl ⟨by rfl, ?_⟩) ?_
            rotate_left
            · intro Wq hWq
              obtain ⟨x0, x1, x2, x3, x4, x5, x6, x7⟩ := hWq
              go_simp
              try with_reducible rfl
            try simp only [Act.put, List.setIfInBounds_toArray, List.set_cons_zero, List.set_cons_succ]
            refine hoist_take (i := 4) (v := ?_) rfl (by kernel_rfl) (by kernel_rfl) (by kernel_rfl) (by kernel_rfl) (fun _ _ _ h => h) XhS0.out (Or.inl ⟨by rfl, ?_⟩) ?_
            rotate_left
            · intro Wq hWq
              obtain ⟨x0, x1, x2, x3, x4, x5, x6, x7⟩ := hWq
              go_simp
              try with_reducible rfl
            try simp only [Act.put, List.setIfInBounds_toArray, List.set_cons_zero, List.set_cons_succ]
            refine hoist_take (i := 5) (v := ?_) rfl (by kernel_rfl) (by kernel_rfl) (by kernel_rfl) (by kernel_rfl) (fun _ _ _ h => h) XhS0.out (Or.inl ⟨by rfl, ?_⟩) ?_
            rotate_left
            · intro Wq hWq
              obtain ⟨x0, x1, x2, x3, x4, x5, x6, x7⟩ := hWq
              go_simp
              try with_reducible rfl
            try simp only [Act.put, List.setIfInBounds_toArray, List.set_cons_zero, List.set_cons_succ]
            refine hoist_one (i := 6) rfl (by kernel_rfl) (fun K hK => ?_)
            have XhK0 := Lib.hid hK
            clear hK
            go_wp2_with fail
            refine XhK0.out _ _ (fun _ => ?_) ?_
            · obtain ⟨x0, x1, x2, x3, x4, x5, x6, x7⟩ := XhS0.out
              exact ⟨old_cell x0 _, old_cell x1 _, old_cell x2 _, old_cell x3 _, old_cell x4 _, old_cell x5 _, old_cell x6 _, old_cell x7 _⟩
            refine hoist_one (i := 7) rfl (by kernel_rfl) (fun K hK => ?_)
            have XhK1 := Lib.hid hK
            clear hK
            refine list_app1 (v := vs) el_lits rfl _ _ rfl rfl rfl (own_kept XhO.out (show Keep (fun _ => True) wr _ from by first | exact (Keep.drew _ _).trans (Keep.alloc _ _ _) | exact (Keep.alloc _ _ _).trans (Keep.drew _ _)) (fun _ _ => trivial)) (litCells M (.slice xm M.atom.args.length capm2)) rfl (fun j u hj => by have := cells_of_block (new_block wr (.cells (litCells M (.slice xm M.atom.args.length capm2)).toArray 37)) j u (by simpa using hj); rw [Nat.zero_add] at this; exact this) (by simp [litCells, Value.oneCell']) (by omega) (by simp; omega) ?_
            intro g2 cap2 w2 ho2 hk2 hg2 hl2
            have nob : ∀ b, b < W3.heap.size → some b ≠ Value.ownBlock vs := fun b hb => own_not XhO.out hb
            have y := hk2.heap (old_block Xhsb.out _) (nob _ (by omega))
            have y2 := cells_of_block y 2 _ rfl
            have yf := box_free y 2
            simp only [Nat.zero_add] at y2
            have kk2 : Keep (fun b => b < W3.heap.size) wr w2 := (show Keep (fun b => b < W3.heap.size) wr _ from by first | exact (Keep.drew _ _).trans (Keep.alloc _ _ _) | exact (Keep.alloc _ _ _).trans (Keep.drew _ _)).trans (hk2.mono fun b _ h => nob b h)
            have Xy := Lib.hid y
            have Xho2 := Lib.hid ho2
            have Xhk2 := Lib.hid hk2
            have Xhg2 := Lib.hid hg2
            have Xnob := Lib.hid nob
            have Xkk2 := Lib.hid kk2
            clear y ho2 hk2 hg2 nob kk2
            clear m0 m1 m2 m3 m4 m5 m6 s0
            go_wp2_with fail
            refine XhK1.out _ _ (fun _ => ?_) ?_
            · obtain ⟨x0, x1, x2, x3, x4, x5, x6, x7⟩ := XhS0.out
              exact ⟨Xkk2.out.cell x0 (show bm < W3.heap.size by omega), Xkk2.out.cell x1 (show bm < W3.heap.size by omega), Xkk2.out.cell x2 (show bm < W3.heap.size by omega), Xkk2.out.cell x3 (show bm < W3.heap.size by omega), Xkk2.out.cell x4 (show bm < W3.heap.size by omega), Xkk2.out.cell x5 (show bm < W3.heap.size by omega), Xkk2.out.cell x6 (show bm < W3.heap.size by omega), Xkk2.out.cell x7 (show W2.heap.size + 1 < W3.heap.size by omega)⟩
            refine hoist_one (i := 8) rfl (by kernel_rfl) (fun K hK => ?_)
            have XhK2 := Lib.hid hK
            clear hK
            go_wp2_with fail
            refine XhK2.out _ _ (fun h => by simp at h) ?_
            refine hoist_one (i := 9) rfl (by kernel_rfl) (fun K hK => ?_)
            have XhK3 := Lib.hid hK
            clear hK
            go_wp2_with fail
            refine XhK3.out _ _ (fun h => by simp at h) ?_
            refine hoist_done (by kernel_rfl) ?_
            have kq : ∀ u, Keep (fun b => b ≠ W2.heap.size + 1) w2 (w2.setCell ⟨W2.heap.size + 1, 2, none⟩ u) := fun u => Keep.setCell _ _ _ (by simp)
            refine post_abs (fun W => ∃ (qs : List (LitD × Value)) (us : Value), Keep (fun j => j < W3.heap.size ∧ j ≠ W2.heap.size + 1) W3 W ∧ W.heap[W2.heap.size + 1]? = some (.cells #[.string r.head.pred, .slice (some ⟨gh, 0, none⟩) r.head.args.length caph, us] 27 (0, 0)) ∧ W.ownsRow W3.heap.size 37 7 us qs.length (qs.flatMap fun p => litCells p.1 p.2) ∧ Keep (fun j => j < W3.heap.size ∧ j ≠ W2.heap.size + 1) wr W ∧ qs.map (·.1) = mixTo r.body more out k ++ [M] ∧ qs.length ≤ 2 * k + 1 ∧ ∀ p, p ∈ qs → TermsIn W2.heap.size W3 p.2 p.1.atom.args) ⟨ps ++ [(M, Value.slice xm M.atom.args.length capm2)], _, ?_, set_at 2 _ Xy.out, own_kept (by simpa using Xho2.out) (kq _) (fun b hb => ?_), ?_, ?_, ?_, ?_⟩ ?_
            · exact XhK.out.trans ((Xkk2.out.mono fun b _ h => h.1).trans ((kq _).mono fun b _ h => h.2))
            · have := (own_cap Xho2.out).2.2.2
              simp only [Value.ownBlock, Option.some.injEq] at hb
              omega
            · exact (Xkk2.out.mono fun b _ h => h.1).trans ((kq _).mono fun b _ h => h.2)
            · rw [List.map_append, Xhps.out]; rfl
            · simp; omega
            · intro p hp
              rcases List.mem_append.1 hp with h | h
              · exact Xhpt.out p h
              · simp only [List.mem_singleton] at h; subst h; exact Xhtsm2.out
            clear XhS0 XhK0 XhK1 XhK2 XhK3 Xy Xho2 Xhk2 Xhg2 Xnob Xkk2 kq
            rintro W4 ⟨ps4, vs4, K4, sb4, O4, kk4, hps4, hpl4, hpt4⟩
            have hws4 := K4.size
            replace d0 := kk4.cell d0 ⟨show gb < W3.heap.size by omega, show gb ≠ W2.heap.size + 1 by omega⟩
            replace d1 := kk4.cell d1 ⟨show gb < W3.heap.size by omega, show gb ≠ W2.heap.size + 1 by omega⟩
            replace d2 := kk4.cell d2 ⟨show gb < W3.heap.size by omega, show gb ≠ W2.heap.size + 1 by omega⟩
            replace d3 := kk4.cell d3 ⟨show gb < W3.heap.size by omega, show gb ≠ W2.heap.size + 1 by omega⟩
            replace d4 := kk4.cell d4 ⟨show gb < W3.heap.size by omega, show gb ≠ W2.heap.size + 1 by omega⟩
            replace d5 := kk4.cell d5 ⟨show gb < W3.heap.size by omega, show gb ≠ W2.heap.size + 1 by omega⟩
            replace d6 := kk4.cell d6 ⟨show gb < W3.heap.size by omega, show gb ≠ W2.heap.size + 1 by omega⟩
            replace f0 := kk4.cell f0 ⟨show W2.heap.size < W3.heap.size by omega, show W2.heap.size ≠ W2.heap.size + 1 by omega⟩
            have hgb4 : gb < W4.heap.size := by omega
            have s0 := cells_of_block sb4 2 _ rfl
            have sf := box_free sb4 2
            simp only [Nat.zero_add] at s0
            have XK4 := Lib.hid K4
            have Xsb4 := Lib.hid sb4
            have XO4 := Lib.hid O4
            have Xkk4 := Lib.hid kk4
            have Xhps4 := Lib.hid hps4
            have Xhpt4 := Lib.hid hpt4
            clear K4 sb4 O4 kk4 hps4 hpt4
            go_wp2_with fail
            refine region_hoist rfl (fun W => W.cell? ⟨gb, k * 7, none⟩ = some (.int .i64 L.kind) ∧ W.cell? ⟨gb, k * 7 + 1, none⟩ = some (.string L.atom.pred) ∧ W.cell? ⟨gb, k * 7 + 2, none⟩ = some (.slice aa L.atom.args.length caps) ∧ W.cell? ⟨gb, k * 7 + 3, none⟩ = some (.bool L.left.var) ∧ W.cell? ⟨gb, k * 7 + 4, none⟩ = some (.string L.left.text) ∧ W.cell? ⟨gb, k * 7 + 5, none⟩ = some (.bool L.right.var) ∧ W.cell? ⟨gb, k * 7 + 6, none⟩ = some (.string L.right.text) ∧ W.cell? ⟨W2.heap.size + 1, 2, none⟩ = some vs4 ∧ W.cell? ⟨W2.heap.size, 2, none⟩ = some (.slice (some ⟨gb, 0, none⟩) r.body.length capb)) [9, 10] ?_
            have hS0 := And.intro d0 (And.intro d1 (And.intro d2 (And.intro d3 (And.intro d4 (And.intro d5 (And.intro d6 (And.intro s0 (f0))))))))
            have XhS0 := Lib.hid hS0
            clear hS0
            refine hoist_take (i := 0) (v := ?_) rfl (by kernel_rfl) (by kernel_rfl) (by kernel_rfl) (by kernel_rfl) (fun _ _ _ h => h) XhS0.out (Or.inl ⟨by rfl, ?_⟩) ?_
            rotate_left
            · intro Wq hWq
              obtain ⟨x0, x1, x2, x3, x4, x5, x6, x7, x8⟩ := hWq
              go_simp
              try with_reducible rfl
            try simp only [Act.put, List.setIfInBounds_toArray, List.set_cons_zero, List.set_cons_succ]
            refine hoist_take (i := 1) (v := ?_) rfl (by kernel_rfl) (by kernel_rfl) (by kernel_rfl) (by kernel_rfl) (fun _ _ _ h => h) XhS0.out (Or.inl ⟨by rfl, ?_⟩) ?_
            rotate_left
            · intro Wq hWq
              obtain ⟨x0, x1, x2, x3, x4, x5, x6, x7, x8⟩ := hWq
              go_simp
              try with_reducible rfl
            try simp only [Act.put, List.setIfInBounds_toArray, List.set_cons_zero, List.set_cons_succ]
            refine hoist_take (i := 2) (v := ?_) rfl (by kernel_rfl) (by kernel_rfl) (by kernel_rfl) (by kernel_rfl) (fun _ _ _ h => h) XhS0.out (Or.inl ⟨by rfl, ?_⟩) ?_
            rotate_left
            · intro Wq hWq
              obtain ⟨x0, x1, x2, x3, x4, x5, x6, x7, x8⟩ := hWq
              go_simp
              try with_reducible rfl
            try simp only [Act.put, List.setIfInBounds_toArray, List.set_cons_zero, List.set_cons_succ]
            refine hoist_take (i := 3) (v := ?_) rfl (by kernel_rfl) (by kernel_rfl) (by kernel_rfl) (by kernel_rfl) (fun _ _ _ h => h) XhS0.out (Or.inl ⟨by rfl, ?_⟩) ?_
            rotate_left
            · intro Wq hWq
              obtain ⟨x0, x1, x2, x3, x4, x5, x6, x7, x8⟩ := hWq
              go_simp
              try with_reducible rfl
            try simp only [Act.put, List.setIfInBounds_toArray, List.set_cons_zero, List.set_cons_succ]
            refine hoist_take (i := 4) (v := ?_) rfl (by kernel_rfl) (by kernel_rfl) (by kernel_rfl) (by kernel_rfl) (fun _ _ _ h => h) XhS0.out (Or.inl ⟨by rfl, ?_⟩) ?_
            rotate_left
            · intro Wq hWq
              obtain ⟨x0, x1, x2, x3, x4, x5, x6, x7, x8⟩ := hWq
              go_simp
              try with_reducible rfl
            try simp only [Act.put, List.setIfInBounds_toArray, List.set_cons_zero, List.set_cons_succ]
            refine hoist_take (i := 5) (v := ?_) rfl (by kernel_rfl) (by kernel_rfl) (by kernel_rfl) (by kernel_rfl) (fun _ _ _ h => h) XhS0.out (Or.inl ⟨by rfl, ?_⟩) ?_
            rotate_left
            · intro Wq hWq
              obtain ⟨x0, x1, x2, x3, x4, x5, x6, x7, x8⟩ := hWq
              go_simp
              try with_reducible rfl
            try simp only [Act.put, List.setIfInBounds_toArray, List.set_cons_zero, List.set_cons_succ]
            refine hoist_take (i := 6) (v := ?_) rfl (by kernel_rfl) (by kernel_rfl) (by kernel_rfl) (by kernel_rfl) (fun _ _ _ h => h) XhS0.out (Or.inl ⟨by rfl, ?_⟩) ?_
            rotate_left
            · intro Wq hWq
              obtain ⟨x0, x1, x2, x3, x4, x5, x6, x7, x8⟩ := hWq
              go_simp
              try with_reducible rfl
            try simp only [Act.put, List.setIfInBounds_toArray, List.set_cons_zero, List.set_cons_succ]
            refine hoist_one (i := 7) rfl (by kernel_rfl) (fun K hK => ?_)
            have XhK0 := Lib.hid hK
            clear hK
            go_wp2_with fail
            refine XhK0.out _ _ (fun _ => ?_) ?_
            · obtain ⟨x0, x1, x2, x3, x4, x5, x6, x7, x8⟩ := XhS0.out
              exact ⟨old_cell x0 _, old_cell x1 _, old_cell x2 _, old_cell x3 _, old_cell x4 _, old_cell x5 _, old_cell x6 _, old_cell x7 _, old_cell x8 _⟩
            refine hoist_one (i := 8) rfl (by kernel_rfl) (fun K hK => ?_)
            have XhK1 := Lib.hid hK
            clear hK
            refine list_app1 (v := vs4) el_lits rfl _ _ rfl rfl rfl (own_kept XO4.out (show Keep (fun _ => True) W4 _ from by first | exact (Keep.drew _ _).trans (Keep.alloc _ _ _) | exact (Keep.alloc _ _ _).trans (Keep.drew _ _)) (fun _ _ => trivial)) (litCells L (.slice aa L.atom.args.length caps)) rfl (fun j u hj => by have := cells_of_block (new_block W4 (.cells (litCells L (.slice aa L.atom.args.length caps)).toArray 37)) j u (by simpa using hj); rw [Nat.zero_add] at this; exact this) (by simp [litCells, Value.oneCell']) (by omega) (by simp; omega) ?_
            intro g2 cap2 w2 ho2 hk2 hg2 hl2
            have nob : ∀ b, b < W3.heap.size → some b ≠ Value.ownBlock vs4 := fun b hb => own_not XO4.out hb
            have y := hk2.heap (old_block Xsb4.out _) (nob _ (by omega))
            have y2 := cells_of_block y 2 _ rfl
            have yf := box_free y 2
            simp only [Nat.zero_add] at y2
            have kk2 : Keep (fun b => b < W3.heap.size) W4 w2 := (show Keep (fun b => b < W3.heap.size) W4 _ from by first | exact (Keep.drew _ _).trans (Keep.alloc _ _ _) | exact (Keep.alloc _ _ _).trans (Keep.drew _ _)).trans (hk2.mono fun b _ h => nob b h)
            have Xy := Lib.hid y
            have Xho2 := Lib.hid ho2
            have Xhk2 := Lib.hid hk2
            have Xhg2 := Lib.hid hg2
            have Xnob := Lib.hid nob
            have Xkk2 := Lib.hid kk2
            clear y ho2 hk2 hg2 nob kk2
            clear d0 d1 d2 d3 d4 d5 d6 s0 f0
            go_wp2_with fail
            refine XhK1.out _ _ (fun _ => ?_) ?_
            · obtain ⟨x0, x1, x2, x3, x4, x5, x6, x7, x8⟩ := XhS0.out
              exact ⟨Xkk2.out.cell x0 (show gb < W3.heap.size by omega), Xkk2.out.cell x1 (show gb < W3.heap.size by omega), Xkk2.out.cell x2 (show gb < W3.heap.size by omega), Xkk2.out.cell x3 (show gb < W3.heap.size by omega), Xkk2.out.cell x4 (show gb < W3.heap.size by omega), Xkk2.out.cell x5 (show gb < W3.heap.size by omega), Xkk2.out.cell x6 (show gb < W3.heap.size by omega), Xkk2.out.cell x7 (show W2.heap.size + 1 < W3.heap.size by omega), Xkk2.out.cell x8 (show W2.heap.size < W3.heap.size by omega)⟩
            refine hoist_one (i := 9) rfl (by kernel_rfl) (fun K hK => ?_)
            have XhK2 := Lib.hid hK
            clear hK
            go_wp2_with fail
            refine XhK2.out _ _ (fun h => by simp at h) ?_
            refine hoist_one (i := 10) rfl (by kernel_rfl) (fun K hK => ?_)
            have XhK3 := Lib.hid hK
            clear hK
            go_wp2_with fail
            refine XhK3.out _ _ (fun h => by simp at h) ?_
            refine hoist_done (by kernel_rfl) ?_
            have kq : ∀ u, Keep (fun b => b ≠ W2.heap.size + 1) w2 (w2.setCell ⟨W2.heap.size + 1, 2, none⟩ u) := fun u => Keep.setCell _ _ _ (by simp)
            refine post_abs (fun W => ∃ (qs : List (LitD × Value)) (us : Value), Keep (fun j => j < W3.heap.size ∧ j ≠ W2.heap.size + 1) W3 W ∧ W.heap[W2.heap.size + 1]? = some (.cells #[.string r.head.pred, .slice (some ⟨gh, 0, none⟩) r.head.args.length caph, us] 27 (0, 0)) ∧ W.ownsRow W3.heap.size 37 7 us qs.length (qs.flatMap fun p => litCells p.1 p.2) ∧ Keep (fun j => j < W3.heap.size ∧ j ≠ W2.heap.size + 1) W4 W ∧ qs.map (·.1) = mixTo r.body more out (k + 1) ∧ qs.length ≤ 2 * (k + 1) ∧ ∀ p, p ∈ qs → TermsIn W2.heap.size W3 p.2 p.1.atom.args) ⟨ps4 ++ [(L, Value.slice aa L.atom.args.length caps)], _, ?_, set_at 2 _ Xy.out, own_kept (by simpa using Xho2.out) (kq _) (fun b hb => ?_), ?_, ?_, ?_, ?_⟩ ?_
            · exact XK4.out.trans ((Xkk2.out.mono fun b _ h => h.1).trans ((kq _).mono fun b _ h => h.2))
            · have := (own_cap Xho2.out).2.2.2
              simp only [Value.ownBlock, Option.some.injEq] at hb
              omega
            · exact (Xkk2.out.mono fun b _ h => h.1).trans ((kq _).mono fun b _ h => h.2)
            · rw [List.map_append, Xhps4.out, Xhmix2.out]; rfl
            · simp; omega
            · intro p hp
              rcases List.mem_append.1 hp with h | h
              · exact Xhpt4.out p h
              · simp only [List.mem_singleton] at h; subst h; exact Xhts.out
            clear XhS0 XhK0 XhK1 XhK2 XhK3 Xy Xho2 Xhk2 Xhg2 Xnob Xkk2 kq
            rintro W5 ⟨ps5, vs5, K5, sb5, O5, kk5, hps5, hpl5, hpt5⟩
            have hws5 := K5.size
            have XK5 := Lib.hid K5
            have Xsb5 := Lib.hid sb5
            have XO5 := Lib.hid O5
            have Xkk5 := Lib.hid kk5
            have Xhps5 := Lib.hid hps5
            have Xhpt5 := Lib.hid hpt5
            clear K5 sb5 O5 kk5 hps5 hpt5
            go_wp2_with fail
            go_roundw
            case rel => exact ⟨k + 1, ps5, vs5, by omega, by go_num, XK5.out, Xsb5.out, XO5.out, Xhps5.out, hpl5, Xhpt5.out⟩
            case measure => simp [intOf]; omega
          · obtain ⟨bo, oo, rfl, hbo, hco⟩ := Xhelo.out k _ hB
            have q0 := hK.cell (Xk3.out.cell (Xkw2.out.cell hco hbo) trivial) ⟨show bo < W3.heap.size by omega, show bo ≠ W2.heap.size + 1 by omega⟩
            simp only [Nat.mul_one] at q0
            have hlto : (k : Int) < out.length := by have := (List.getElem?_eq_some_iff.1 hB).1; omega
            have hbow : bo < wr.heap.size := by omega
            have hmix2 : mixTo r.body more out (k + 1) = (mixTo r.body more out k ++ [M]) ++ [L] := by rw [hmix]; simp [hB]
            clear hmix hB hL hLd hco
            have s0 := cells_of_block hsb 2 _ rfl
            have sf := box_free hsb 2
            simp only [Nat.zero_add] at s0
            have hgbr : gb < wr.heap.size := by omega
            have XhK := Lib.hid hK
            have Xhsb := Lib.hid hsb
            have XhO := Lib.hid hO
            have Xhps := Lib.hid hps
            have Xhpt := Lib.hid hpt
            have Xhmix2 := Lib.hid hmix2
            have Xhts := Lib.hid hts
            have Xhtsm2 := Lib.hid htsm2
            clear hK hsb hO hps hpt hmix2 hts htsm2
            go_wp2_with fail
            refine region_hoist rfl (fun W => W.cell? ⟨bm, om + k * 7, none⟩ = some (.int .i64 M.kind) ∧ W.cell? ⟨bm, om + k * 7 + 1, none⟩ = some (.string M.atom.pred) ∧ W.cell? ⟨bm, om + k * 7 + 2, none⟩ = some (.slice xm M.atom.args.length capm2) ∧ W.cell? ⟨bm, om + k * 7 + 3, none⟩ = some (.bool M.left.var) ∧ W.cell? ⟨bm, om + k * 7 + 4, none⟩ = some (.string M.left.text) ∧ W.cell? ⟨bm, om + k * 7 + 5, none⟩ = some (.bool M.right.var) ∧ W.cell? ⟨bm, om + k * 7 + 6, none⟩ = some (.string M.right.text) ∧ W.cell? ⟨W2.heap.size + 1, 2, none⟩ = some vs) [8, 9] ?_
            have hS0 := And.intro m0 (And.intro m1 (And.intro m2 (And.intro m3 (And.intro m4 (And.intro m5 (And.intro m6 (s0)))))))
            have XhS0 := Lib.hid hS0
            clear hS0
            refine hoist_take (i := 0) (v := ?_) rfl (by kernel_rfl) (by kernel_rfl) (by kernel_rfl) (by kernel_rfl) (fun _ _ _ h => h) XhS0.out (Or.inl ⟨by rfl, ?_⟩) ?_
            rotate_left
            · intro Wq hWq
              obtain ⟨x0, x1, x2, x3, x4, x5, x6, x7⟩ := hWq
              go_simp
              try with_reducible rfl
            try simp only [Act.put, List.setIfInBounds_toArray, List.set_cons_zero, List.set_cons_succ]
            refine hoist_take (i := 1) (v := ?_) rfl (by kernel_rfl) (by kernel_rfl) (by kernel_rfl) (by kernel_rfl) (fun _ _ _ h => h) XhS0.out (Or.inl ⟨by rfl, ?_⟩) ?_
            rotate_left
            · intro Wq hWq
              obtain ⟨x0, x1, x2, x3, x4, x5, x6, x7⟩ := hWq
              go_simp
              try with_reducible rfl
            try simp only [Act.put, List.setIfInBounds_toArray, List.set_cons_zero, List.set_cons_succ]
            refine hoist_take (i := 2) (v := ?_) rfl (by kernel_rfl) (by kernel_rfl) (by kernel_rfl) (by kernel_rfl) (fun _ _ _ h => h) XhS0.out (Or.inl ⟨by rfl, ?_⟩) ?_
            rotate_left
            · intro Wq hWq
              obtain ⟨x0, x1, x2, x3, x4, x5, x6, x7⟩ := hWq
              go_simp
              try with_reducible rfl
            try simp only [Act.put, List.setIfInBounds_toArray, List.set_cons_zero, List.set_cons_succ]
            refine hoist_take (i := 3) (v := ?_) rfl (by kernel_rfl) (by kernel_rfl) (by kernel_rfl) (by kernel_rfl) (fun _ _ _ h => h) XhS0.out (Or.inl ⟨by rfl, ?_⟩) ?_
            rotate_left
            · intro Wq hWq
              obtain ⟨x0, x1, x2, x3, x4, x5, x6, x7⟩ := hWq
              go_simp
              try with_reducible rfl
            try simp only [Act.put, List.setIfInBounds_toArray, List.set_cons_zero, List.set_cons_succ]
            refine hoist_take (i := 4) (v := ?_) rfl (by kernel_rfl) (by kernel_rfl) (by kernel_rfl) (by kernel_rfl) (fun _ _ _ h => h) XhS0.out (Or.inl ⟨by rfl, ?_⟩) ?_
            rotate_left
            · intro Wq hWq
              obtain ⟨x0, x1, x2, x3, x4, x5, x6, x7⟩ := hWq
              go_simp
              try with_reducible rfl
            try simp only [Act.put, List.setIfInBounds_toArray, List.set_cons_zero, List.set_cons_succ]
            refine hoist_take (i := 5) (v := ?_) rfl (by kernel_rfl) (by kernel_rfl) (by kernel_rfl) (by kernel_rfl) (fun _ _ _ h => h) XhS0.out (Or.inl ⟨by rfl, ?_⟩) ?_
            rotate_left
            · intro Wq hWq
              obtain ⟨x0, x1, x2, x3, x4, x5, x6, x7⟩ := hWq
              go_simp
              try with_reducible rfl
            try simp only [Act.put, List.setIfInBounds_toArray, List.set_cons_zero, List.set_cons_succ]
            refine hoist_one (i := 6) rfl (by kernel_rfl) (fun K hK => ?_)
            have XhK0 := Lib.hid hK
            clear hK
            go_wp2_with fail
            refine XhK0.out _ _ (fun _ => ?_) ?_
            · obtain ⟨x0, x1, x2, x3, x4, x5, x6, x7⟩ := XhS0.out
              exact ⟨old_cell x0 _, old_cell x1 _, old_cell x2 _, old_cell x3 _, old_cell x4 _, old_cell x5 _, old_cell x6 _, old_cell x7 _⟩
            refine hoist_one (i := 7) rfl (by kernel_rfl) (fun K hK => ?_)
            have XhK1 := Lib.hid hK
            clear hK
            refine list_app1 (v := vs) el_lits rfl _ _ rfl rfl rfl (own_kept XhO.out (show Keep (fun _ => True) wr _ from by first | exact (Keep.drew _ _).trans (Keep.alloc _ _ _) | exact (Keep.alloc _ _ _).trans (Keep.drew _ _)) (fun _ _ => trivial)) (litCells M (.slice xm M.atom.args.length capm2)) rfl (fun j u hj => by have := cells_of_block (new_block wr (.cells (litCells M (.slice xm M.atom.args.length capm2)).toArray 37)) j u (by simpa using hj); rw [Nat.zero_add] at this; exact this) (by simp [litCells, Value.oneCell']) (by omega) (by simp; omega) ?_
            intro g2 cap2 w2 ho2 hk2 hg2 hl2
            have nob : ∀ b, b < W3.heap.size → some b ≠ Value.ownBlock vs := fun b hb => own_not XhO.out hb
            have y := hk2.heap (old_block Xhsb.out _) (nob _ (by omega))
            have y2 := cells_of_block y 2 _ rfl
            have yf := box_free y 2
            simp only [Nat.zero_add] at y2
            have kk2 : Keep (fun b => b < W3.heap.size) wr w2 := (show Keep (fun b => b < W3.heap.size) wr _ from by first | exact (Keep.drew _ _).trans (Keep.alloc _ _ _) | exact (Keep.alloc _ _ _).trans (Keep.drew _ _)).trans (hk2.mono fun b _ h => nob b h)
            have Xy := Lib.hid y
            have Xho2 := Lib.hid ho2
            have Xhk2 := Lib.hid hk2
            have Xhg2 := Lib.hid hg2
            have Xnob := Lib.hid nob
            have Xkk2 := Lib.hid kk2
            clear y ho2 hk2 hg2 nob kk2
            clear m0 m1 m2 m3 m4 m5 m6 s0
            go_wp2_with fail
            refine XhK1.out _ _ (fun _ => ?_) ?_
            · obtain ⟨x0, x1, x2, x3, x4, x5, x6, x7⟩ := XhS0.out
              exact ⟨Xkk2.out.cell x0 (show bm < W3.heap.size by omega), Xkk2.out.cell x1 (show bm < W3.heap.size by omega), Xkk2.out.cell x2 (show bm < W3.heap.size by omega), Xkk2.out.cell x3 (show bm < W3.heap.size by omega), Xkk2.out.cell x4 (show bm < W3.heap.size by omega), Xkk2.out.cell x5 (show bm < W3.heap.size by omega), Xkk2.out.cell x6 (show bm < W3.heap.size by omega), Xkk2.out.cell x7 (show W2.heap.size + 1 < W3.heap.size by omega)⟩
            refine hoist_one (i := 8) rfl (by kernel_rfl) (fun K hK => ?_)
            have XhK2 := Lib.hid hK
            clear hK
            go_wp2_with fail
            refine XhK2.out _ _ (fun h => by simp at h) ?_
            refine hoist_one (i := 9) rfl (by kernel_rfl) (fun K hK => ?_)
            have XhK3 := Lib.hid hK
            clear hK
            go_wp2_with fail
            refine XhK3.out _ _ (fun h => by simp at h) ?_
            refine hoist_done (by kernel_rfl) ?_
            have kq : ∀ u, Keep (fun b => b ≠ W2.heap.size + 1) w2 (w2.setCell ⟨W2.heap.size + 1, 2, none⟩ u) := fun u => Keep.setCell _ _ _ (by simp)
            refine post_abs (fun W => ∃ (qs : List (LitD × Value)) (us : Value), Keep (fun j => j < W3.heap.size ∧ j ≠ W2.heap.size + 1) W3 W ∧ W.heap[W2.heap.size + 1]? = some (.cells #[.string r.head.pred, .slice (some ⟨gh, 0, none⟩) r.head.args.length caph, us] 27 (0, 0)) ∧ W.ownsRow W3.heap.size 37 7 us qs.length (qs.flatMap fun p => litCells p.1 p.2) ∧ Keep (fun j => j < W3.heap.size ∧ j ≠ W2.heap.size + 1) wr W ∧ qs.map (·.1) = mixTo r.body more out k ++ [M] ∧ qs.length ≤ 2 * k + 1 ∧ ∀ p, p ∈ qs → TermsIn W2.heap.size W3 p.2 p.1.atom.args) ⟨ps ++ [(M, Value.slice xm M.atom.args.length capm2)], _, ?_, set_at 2 _ Xy.out, own_kept (by simpa using Xho2.out) (kq _) (fun b hb => ?_), ?_, ?_, ?_, ?_⟩ ?_
            · exact XhK.out.trans ((Xkk2.out.mono fun b _ h => h.1).trans ((kq _).mono fun b _ h => h.2))
            · have := (own_cap Xho2.out).2.2.2
              simp only [Value.ownBlock, Option.some.injEq] at hb
              omega
            · exact (Xkk2.out.mono fun b _ h => h.1).trans ((kq _).mono fun b _ h => h.2)
            · rw [List.map_append, Xhps.out]; rfl
            · simp; omega
            · intro p hp
              rcases List.mem_append.1 hp with h | h
              · exact Xhpt.out p h
              · simp only [List.mem_singleton] at h; subst h; exact Xhtsm2.out
            clear XhS0 XhK0 XhK1 XhK2 XhK3 Xy Xho2 Xhk2 Xhg2 Xnob Xkk2 kq
            rintro W4 ⟨ps4, vs4, K4, sb4, O4, kk4, hps4, hpl4, hpt4⟩
            have hws4 := K4.size
            replace d0 := kk4.cell d0 ⟨show gb < W3.heap.size by omega, show gb ≠ W2.heap.size + 1 by omega⟩
            replace d1 := kk4.cell d1 ⟨show gb < W3.heap.size by omega, show gb ≠ W2.heap.size + 1 by omega⟩
            replace d2 := kk4.cell d2 ⟨show gb < W3.heap.size by omega, show gb ≠ W2.heap.size + 1 by omega⟩
            replace d3 := kk4.cell d3 ⟨show gb < W3.heap.size by omega, show gb ≠ W2.heap.size + 1 by omega⟩
            replace d4 := kk4.cell d4 ⟨show gb < W3.heap.size by omega, show gb ≠ W2.heap.size + 1 by omega⟩
            replace d5 := kk4.cell d5 ⟨show gb < W3.heap.size by omega, show gb ≠ W2.heap.size + 1 by omega⟩
            replace d6 := kk4.cell d6 ⟨show gb < W3.heap.size by omega, show gb ≠ W2.heap.size + 1 by omega⟩
            replace f0 := kk4.cell f0 ⟨show W2.heap.size < W3.heap.size by omega, show W2.heap.size ≠ W2.heap.size + 1 by omega⟩
            replace q0 := kk4.cell q0 ⟨show bo < W3.heap.size by omega, show bo ≠ W2.heap.size + 1 by omega⟩
            have hbow4 : bo < W4.heap.size := by omega
            have hgb4 : gb < W4.heap.size := by omega
            have s0 := cells_of_block sb4 2 _ rfl
            have sf := box_free sb4 2
            simp only [Nat.zero_add] at s0
            have XK4 := Lib.hid K4
            have Xsb4 := Lib.hid sb4
            have XO4 := Lib.hid O4
            have Xkk4 := Lib.hid kk4
            have Xhps4 := Lib.hid hps4
            have Xhpt4 := Lib.hid hpt4
            clear K4 sb4 O4 kk4 hps4 hpt4
            go_wp2_with fail
            refine region_hoist rfl (fun W => W.cell? ⟨gb, k * 7, none⟩ = some (.int .i64 L.kind) ∧ W.cell? ⟨gb, k * 7 + 1, none⟩ = some (.string L.atom.pred) ∧ W.cell? ⟨gb, k * 7 + 2, none⟩ = some (.slice aa L.atom.args.length caps) ∧ W.cell? ⟨gb, k * 7 + 3, none⟩ = some (.bool L.left.var) ∧ W.cell? ⟨gb, k * 7 + 4, none⟩ = some (.string L.left.text) ∧ W.cell? ⟨gb, k * 7 + 5, none⟩ = some (.bool L.right.var) ∧ W.cell? ⟨gb, k * 7 + 6, none⟩ = some (.string L.right.text) ∧ W.cell? ⟨W2.heap.size + 1, 2, none⟩ = some vs4 ∧ W.cell? ⟨W2.heap.size, 2, none⟩ = some (.slice (some ⟨gb, 0, none⟩) r.body.length capb)) [9, 10] ?_
            have hS0 := And.intro d0 (And.intro d1 (And.intro d2 (And.intro d3 (And.intro d4 (And.intro d5 (And.intro d6 (And.intro s0 (f0))))))))
            have XhS0 := Lib.hid hS0
            clear hS0
            refine hoist_take (i := 0) (v := ?_) rfl (by kernel_rfl) (by kernel_rfl) (by kernel_rfl) (by kernel_rfl) (fun _ _ _ h => h) XhS0.out (Or.inl ⟨by rfl, ?_⟩) ?_
            rotate_left
            · intro Wq hWq
              obtain ⟨x0, x1, x2, x3, x4, x5, x6, x7, x8⟩ := hWq
              go_simp
              try with_reducible rfl
            try simp only [Act.put, List.setIfInBounds_toArray, List.set_cons_zero, List.set_cons_succ]
            refine hoist_take (i := 1) (v := ?_) rfl (by kernel_rfl) (by kernel_rfl) (by kernel_rfl) (by kernel_rfl) (fun _ _ _ h => h) XhS0.out (Or.inl ⟨by rfl, ?_⟩) ?_
            rotate_left
            · intro Wq hWq
              obtain ⟨x0, x1, x2, x3, x4, x5, x6, x7, x8⟩ := hWq
              go_simp
              try with_reducible rfl
            try simp only [Act.put, List.setIfInBounds_toArray, List.set_cons_zero, List.set_cons_succ]
            refine hoist_take (i := 2) (v := ?_) rfl (by kernel_rfl) (by kernel_rfl) (by kernel_rfl) (by kernel_rfl) (fun _ _ _ h => h) XhS0.out (Or.inl ⟨by rfl, ?_⟩) ?_
            rotate_left
            · intro Wq hWq
              obtain ⟨x0, x1, x2, x3, x4, x5, x6, x7, x8⟩ := hWq
              go_simp
              try with_reducible rfl
            try simp only [Act.put, List.setIfInBounds_toArray, List.set_cons_zero, List.set_cons_succ]
            refine hoist_take (i := 3) (v := ?_) rfl (by kernel_rfl) (by kernel_rfl) (by kernel_rfl) (by kernel_rfl) (fun _ _ _ h => h) XhS0.out (Or.inl ⟨by rfl, ?_⟩) ?_
            rotate_left
            · intro Wq hWq
              obtain ⟨x0, x1, x2, x3, x4, x5, x6, x7, x8⟩ := hWq
              go_simp
              try with_reducible rfl
            try simp only [Act.put, List.setIfInBounds_toArray, List.set_cons_zero, List.set_cons_succ]
            refine hoist_take (i := 4) (v := ?_) rfl (by kernel_rfl) (by kernel_rfl) (by kernel_rfl) (by kernel_rfl) (fun _ _ _ h => h) XhS0.out (Or.inl ⟨by rfl, ?_⟩) ?_
            rotate_left
            · intro Wq hWq
              obtain ⟨x0, x1, x2, x3, x4, x5, x6, x7, x8⟩ := hWq
              go_simp
              try with_reducible rfl
            try simp only [Act.put, List.setIfInBounds_toArray, List.set_cons_zero, List.set_cons_succ]
            refine hoist_take (i := 5) (v := ?_) rfl (by kernel_rfl) (by kernel_rfl) (by kernel_rfl) (by kernel_rfl) (fun _ _ _ h => h) XhS0.out (Or.inl ⟨by rfl, ?_⟩) ?_
            rotate_left
            · intro Wq hWq
              obtain ⟨x0, x1, x2, x3, x4, x5, x6, x7, x8⟩ := hWq
              go_simp
              try with_reducible rfl
            try simp only [Act.put, List.setIfInBounds_toArray, List.set_cons_zero, List.set_cons_succ]
            refine hoist_take (i := 6) (v := ?_) rfl (by kernel_rfl) (by kernel_rfl) (by kernel_rfl) (by kernel_rfl) (fun _ _ _ h => h) XhS0.out (Or.inl ⟨by rfl, ?_⟩) ?_
            rotate_left
            · intro Wq hWq
              obtain ⟨x0, x1, x2, x3, x4, x5, x6, x7, x8⟩ := hWq
              go_simp
              try with_reducible rfl
            try simp only [Act.put, List.setIfInBounds_toArray, List.set_cons_zero, List.set_cons_succ]
            refine hoist_one (i := 7) rfl (by kernel_rfl) (fun K hK => ?_)
            have XhK0 := Lib.hid hK
            clear hK
            go_wp2_with fail
            refine XhK0.out _ _ (fun _ => ?_) ?_
            · obtain ⟨x0, x1, x2, x3, x4, x5, x6, x7, x8⟩ := XhS0.out
              exact ⟨old_cell x0 _, old_cell x1 _, old_cell x2 _, old_cell x3 _, old_cell x4 _, old_cell x5 _, old_cell x6 _, old_cell x7 _, old_cell x8 _⟩
            refine hoist_one (i := 8) rfl (by kernel_rfl) (fun K hK => ?_)
            have XhK1 := Lib.hid hK
            clear hK
            refine list_app1 (v := vs4) el_lits rfl _ _ rfl rfl rfl (own_kept XO4.out (show Keep (fun _ => True) W4 _ from by first | exact (Keep.drew _ _).trans (Keep.alloc _ _ _) | exact (Keep.alloc _ _ _).trans (Keep.drew _ _)) (fun _ _ => trivial)) (litCells L (.slice aa L.atom.args.length caps)) rfl (fun j u hj => by have := cells_of_block (new_block W4 (.cells (litCells L (.slice aa L.atom.args.length caps)).toArray 37)) j u (by simpa using hj); rw [Nat.zero_add] at this; exact this) (by simp [litCells, Value.oneCell']) (by omega) (by simp; omega) ?_
            intro g2 cap2 w2 ho2 hk2 hg2 hl2
            have nob : ∀ b, b < W3.heap.size → some b ≠ Value.ownBlock vs4 := fun b hb => own_not XO4.out hb
            have y := hk2.heap (old_block Xsb4.out _) (nob _ (by omega))
            have y2 := cells_of_block y 2 _ rfl
            have yf := box_free y 2
            simp only [Nat.zero_add] at y2
            have kk2 : Keep (fun b => b < W3.heap.size) W4 w2 := (show Keep (fun b => b < W3.heap.size) W4 _ from by first | exact (Keep.drew _ _).trans (Keep.alloc _ _ _) | exact (Keep.alloc _ _ _).trans (Keep.drew _ _)).trans (hk2.mono fun b _ h => nob b h)
            have Xy := Lib.hid y
            have Xho2 := Lib.hid ho2
            have Xhk2 := Lib.hid hk2
            have Xhg2 := Lib.hid hg2
            have Xnob := Lib.hid nob
            have Xkk2 := Lib.hid kk2
            clear y ho2 hk2 hg2 nob kk2
            clear d0 d1 d2 d3 d4 d5 d6 s0 f0
            go_wp2_with fail
            refine XhK1.out _ _ (fun _ => ?_) ?_
            · obtain ⟨x0, x1, x2, x3, x4, x5, x6, x7, x8⟩ := XhS0.out
              exact ⟨Xkk2.out.cell x0 (show gb < W3.heap.size by omega), Xkk2.out.cell x1 (show gb < W3.heap.size by omega), Xkk2.out.cell x2 (show gb < W3.heap.size by omega), Xkk2.out.cell x3 (show gb < W3.heap.size by omega), Xkk2.out.cell x4 (show gb < W3.heap.size by omega), Xkk2.out.cell x5 (show gb < W3.heap.size by omega), Xkk2.out.cell x6 (show gb < W3.heap.size by omega), Xkk2.out.cell x7 (show W2.heap.size + 1 < W3.heap.size by omega), Xkk2.out.cell x8 (show W2.heap.size < W3.heap.size by omega)⟩
            refine hoist_one (i := 9) rfl (by kernel_rfl) (fun K hK => ?_)
            have XhK2 := Lib.hid hK
            clear hK
            go_wp2_with fail
            refine XhK2.out _ _ (fun h => by simp at h) ?_
            refine hoist_one (i := 10) rfl (by kernel_rfl) (fun K hK => ?_)
            have XhK3 := Lib.hid hK
            clear hK
            go_wp2_with fail
            refine XhK3.out _ _ (fun h => by simp at h) ?_
            refine hoist_done (by kernel_rfl) ?_
            have kq : ∀ u, Keep (fun b => b ≠ W2.heap.size + 1) w2 (w2.setCell ⟨W2.heap.size + 1, 2, none⟩ u) := fun u => Keep.setCell _ _ _ (by simp)
            refine post_abs (fun W => ∃ (qs : List (LitD × Value)) (us : Value), Keep (fun j => j < W3.heap.size ∧ j ≠ W2.heap.size + 1) W3 W ∧ W.heap[W2.heap.size + 1]? = some (.cells #[.string r.head.pred, .slice (some ⟨gh, 0, none⟩) r.head.args.length caph, us] 27 (0, 0)) ∧ W.ownsRow W3.heap.size 37 7 us qs.length (qs.flatMap fun p => litCells p.1 p.2) ∧ Keep (fun j => j < W3.heap.size ∧ j ≠ W2.heap.size + 1) W4 W ∧ qs.map (·.1) = mixTo r.body more out (k + 1) ∧ qs.length ≤ 2 * (k + 1) ∧ ∀ p, p ∈ qs → TermsIn W2.heap.size W3 p.2 p.1.atom.args) ⟨ps4 ++ [(L, Value.slice aa L.atom.args.length caps)], _, ?_, set_at 2 _ Xy.out, own_kept (by simpa using Xho2.out) (kq _) (fun b hb => ?_), ?_, ?_, ?_, ?_⟩ ?_
            · exact XK4.out.trans ((Xkk2.out.mono fun b _ h => h.1).trans ((kq _).mono fun b _ h => h.2))
            · have := (own_cap Xho2.out).2.2.2
              simp only [Value.ownBlock, Option.some.injEq] at hb
              omega
            · exact (Xkk2.out.mono fun b _ h => h.1).trans ((kq _).mono fun b _ h => h.2)
            · rw [List.map_append, Xhps4.out, Xhmix2.out]; rfl
            · simp; omega
            · intro p hp
              rcases List.mem_append.1 hp with h | h
              · exact Xhpt4.out p h
              · simp only [List.mem_singleton] at h; subst h; exact Xhts.out
            clear XhS0 XhK0 XhK1 XhK2 XhK3 Xy Xho2 Xhk2 Xhg2 Xnob Xkk2 kq
            rintro W5 ⟨ps5, vs5, K5, sb5, O5, kk5, hps5, hpl5, hpt5⟩
            have hws5 := K5.size
            have XK5 := Lib.hid K5
            have Xsb5 := Lib.hid sb5
            have XO5 := Lib.hid O5
            have Xkk5 := Lib.hid kk5
            have Xhps5 := Lib.hid hps5
            have Xhpt5 := Lib.hid hpt5
            clear K5 sb5 O5 kk5 hps5 hpt5
            go_wp2_with fail
            go_roundw
            case rel => exact ⟨k + 1, ps5, vs5, by omega, by go_num, XK5.out, Xsb5.out, XO5.out, Xhps5.out, hpl5, Xhpt5.out⟩
            case measure => simp [intOf]; omega
          · obtain ⟨bo, oo, rfl, hbo, hco⟩ := Xhelo.out k _ hB
            have q0 := hK.cell (Xk3.out.cell (Xkw2.out.cell hco hbo) trivial) ⟨show bo < W3.heap.size by omega, show bo ≠ W2.heap.size + 1 by omega⟩
            simp only [Nat.mul_one] at q0
            have hlto : (k : Int) < out.length := by have := (List.getElem?_eq_some_iff.1 hB).1; omega
            have hbow : bo < wr.heap.size := by omega
            have hkn : (L.kind != 1) = true := by simp [hB1]
            have hmix2 : mixTo r.body more out (k + 1) = (mixTo r.body more out k ++ [M]) ++ [] := by rw [hmix]; simp [hB, hB1]
            clear hmix hB hL hLd hco hB1
            have s0 := cells_of_block hsb 2 _ rfl
            have sf := box_free hsb 2
            simp only [Nat.zero_add] at s0
            have hgbr : gb < wr.heap.size := by omega
            have XhK := Lib.hid hK
            have Xhsb := Lib.hid hsb
            have XhO := Lib.hid hO
            have Xhps := Lib.hid hps
            have Xhpt := Lib.hid hpt
            have Xhmix2 := Lib.hid hmix2
            have Xhts := Lib.hid hts
            have Xhtsm2 := Lib.hid htsm2
            clear hK hsb hO hps hpt hmix2 hts htsm2
            go_wp2_with fail
            refine region_hoist rfl (fun W => W.cell? ⟨bm, om + k * 7, none⟩ = some (.int .i64 M.kind) ∧ W.cell? ⟨bm, om + k * 7 + 1, none⟩ = some (.string M.atom.pred) ∧ W.cell? ⟨bm, om + k * 7 + 2, none⟩ = some (.slice xm M.atom.args.length capm2) ∧ W.cell? ⟨bm, om + k * 7 + 3, none⟩ = some (.bool M.left.var) ∧ W.cell? ⟨bm, om + k * 7 + 4, none⟩ = some (.string M.left.text) ∧ W.cell? ⟨bm, om + k * 7 + 5, none⟩ = some (.bool M.right.var) ∧ W.cell? ⟨bm, om + k * 7 + 6, none⟩ = some (.string M.right.text) ∧ W.cell? ⟨W2.heap.size + 1, 2, none⟩ = some vs) [8, 9] ?_
            have hS0 := And.intro m0 (And.intro m1 (And.intro m2 (And.intro m3 (And.intro m4 (And.intro m5 (And.intro m6 (s0)))))))
            have XhS0 := Lib.hid hS0
            clear hS0
            refine hoist_take (i := 0) (v := ?_) rfl (by kernel_rfl) (by kernel_rfl) (by kernel_rfl) (by kernel_rfl) (fun _ _ _ h => h) XhS0.out (Or.inl ⟨by rfl, ?_⟩) ?_
            rotate_left
            · intro Wq hWq
              obtain ⟨x0, x1, x2, x3, x4, x5, x6, x7⟩ := hWq
              go_simp
              try with_reducible rfl
            try simp only [Act.put, List.setIfInBounds_toArray, List.set_cons_zero, List.set_cons_succ]
            refine hoist_take (i := 1) (v := ?_) rfl (by kernel_rfl) (by kernel_rfl) (by kernel_rfl) (by kernel_rfl) (fun _ _ _ h => h) XhS0.out (Or.inl ⟨by rfl, ?_⟩) ?_
            rotate_left
            · intro Wq hWq
              obtain ⟨x0, x1, x2, x3, x4, x5, x6, x7⟩ := hWq
              go_simp
              try with_reducible rfl
            try simp only [Act.put, List.setIfInBounds_toArray, List.set_cons_zero, List.set_cons_succ]
            refine hoist_take (i := 2) (v := ?_) rfl (by kernel_rfl) (by kernel_rfl) (by kernel_rfl) (by kernel_rfl) (fun _ _ _ h => h) XhS0.out (Or.inl ⟨by rfl, ?_⟩) ?_
            rotate_left
            · intro Wq hWq
              obtain ⟨x0, x1, x2, x3, x4, x5, x6, x7⟩ := hWq
              go_simp
              try with_reducible rfl
            try simp only [Act.put, List.setIfInBounds_toArray, List.set_cons_zero, List.set_cons_succ]
            refine hoist_take (i := 3) (v := ?_) rfl (by kernel_rfl) (by kernel_rfl) (by kernel_rfl) (by kernel_rfl) (fun _ _ _ h => h) XhS0.out (Or.inl ⟨by rfl, ?_⟩) ?_
            rotate_left
            · intro Wq hWq
              obtain ⟨x0, x1, x2, x3, x4, x5, x6, x7⟩ := hWq
              go_simp
              try with_reducible rfl
            try simp only [Act.put, List.setIfInBounds_toArray, List.set_cons_zero, List.set_cons_succ]
            refine hoist_take (i := 4) (v := ?_) rfl (by kernel_rfl) (by kernel_rfl) (by kernel_rfl) (by kernel_rfl) (fun _ _ _ h => h) XhS0.out (Or.inl ⟨by rfl, ?_⟩) ?_
            rotate_left
            · intro Wq hWq
              obtain ⟨x0, x1, x2, x3, x4, x5, x6, x7⟩ := hWq
              go_simp
              try with_reducible rfl
            try simp only [Act.put, List.setIfInBounds_toArray, List.set_cons_zero, List.set_cons_succ]
            refine hoist_take (i := 5) (v := ?_) rfl (by kernel_rfl) (by kernel_rfl) (by kernel_rfl) (by kernel_rfl) (fun _ _ _ h => h) XhS0.out (Or.inl ⟨by rfl, ?_⟩) ?_
            rotate_left
            · intro Wq hWq
              obtain ⟨x0, x1, x2, x3, x4, x5, x6, x7⟩ := hWq
              go_simp
              try with_reducible rfl
            try simp only [Act.put, List.setIfInBounds_toArray, List.set_cons_zero, List.set_cons_succ]
            refine hoist_one (i := 6) rfl (by kernel_rfl) (fun K hK => ?_)
            have XhK0 := Lib.hid hK
            clear hK
            go_wp2_with fail
            refine XhK0.out _ _ (fun _ => ?_) ?_
            · obtain ⟨x0, x1, x2, x3, x4, x5, x6, x7⟩ := XhS0.out
              exact ⟨old_cell x0 _, old_cell x1 _, old_cell x2 _, old_cell x3 _, old_cell x4 _, old_cell x5 _, old_cell x6 _, old_cell x7 _⟩
            refine hoist_one (i := 7) rfl (by kernel_rfl) (fun K hK => ?_)
            have XhK1 := Lib.hid hK
            clear hK
            refine list_app1 (v := vs) el_lits rfl _ _ rfl rfl rfl (own_kept XhO.out (show Keep (fun _ => True) wr _ from by first | exact (Keep.drew _ _).trans (Keep.alloc _ _ _) | exact (Keep.alloc _ _ _).trans (Keep.drew _ _)) (fun _ _ => trivial)) (litCells M (.slice xm M.atom.args.length capm2)) rfl (fun j u hj => by have := cells_of_block (new_block wr (.cells (litCells M (.slice xm M.atom.args.length capm2)).toArray 37)) j u (by simpa using hj); rw [Nat.zero_add] at this; exact this) (by simp [litCells, Value.oneCell']) (by omega) (by simp; omega) ?_
            intro g2 cap2 w2 ho2 hk2 hg2 hl2
            have nob : ∀ b, b < W3.heap.size → some b ≠ Value.ownBlock vs := fun b hb => own_not XhO.out hb
            have y := hk2.heap (old_block Xhsb.out _) (nob _ (by omega))
            have y2 := cells_of_block y 2 _ rfl
            have yf := box_free y 2
            simp only [Nat.zero_add] at y2
            have kk2 : Keep (fun b => b < W3.heap.size) wr w2 := (show Keep (fun b => b < W3.heap.size) wr _ from by first | exact (Keep.drew _ _).trans (Keep.alloc _ _ _) | exact (Keep.alloc _ _ _).trans (Keep.drew _ _)).trans (hk2.mono fun b _ h => nob b h)
            have Xy := Lib.hid y
            have Xho2 := Lib.hid ho2
            have Xhk2 := Lib.hid hk2
            have Xhg2 := Lib.hid hg2
            have Xnob := Lib.hid nob
            have Xkk2 := Lib.hid kk2
            clear y ho2 hk2 hg2 nob kk2
            clear m0 m1 m2 m3 m4 m5 m6 s0
            go_wp2_with fail
            refine XhK1.out _ _ (fun _ => ?_) ?_
            · obtain ⟨x0, x1, x2, x3, x4, x5, x6, x7⟩ := XhS0.out
              exact ⟨Xkk2.out.cell x0 (show bm < W3.heap.size by omega), Xkk2.out.cell x1 (show bm < W3.heap.size by omega), Xkk2.out.cell x2 (show bm < W3.heap.size by omega), Xkk2.out.cell x3 (show bm < W3.heap.size by omega), Xkk2.out.cell x4 (show bm < W3.heap.size by omega), Xkk2.out.cell x5 (show bm < W3.heap.size by omega), Xkk2.out.cell x6 (show bm < W3.heap.size by omega), Xkk2.out.cell x7 (show W2.heap.size + 1 < W3.heap.size by omega)⟩
            refine hoist_one (i := 8) rfl (by kernel_rfl) (fun K hK => ?_)
            have XhK2 := Lib.hid hK
            clear hK
            go_wp2_with fail
            refine XhK2.out _ _ (fun h => by simp at h) ?_
            refine hoist_one (i := 9) rfl (by kernel_rfl) (fun K hK => ?_)
            have XhK3 := Lib.hid hK
            clear hK
            go_wp2_with fail
            refine XhK3.out _ _ (fun h => by simp at h) ?_
            refine hoist_done (by kernel_rfl) ?_
            have kq : ∀ u, Keep (fun b => b ≠ W2.heap.size + 1) w2 (w2.setCell ⟨W2.heap.size + 1, 2, none⟩ u) := fun u => Keep.setCell _ _ _ (by simp)
            refine post_abs (fun W => ∃ (qs : List (LitD × Value)) (us : Value), Keep (fun j => j < W3.heap.size ∧ j ≠ W2.heap.size + 1) W3 W ∧ W.heap[W2.heap.size + 1]? = some (.cells #[.string r.head.pred, .slice (some ⟨gh, 0, none⟩) r.head.args.length caph, us] 27 (0, 0)) ∧ W.ownsRow W3.heap.size 37 7 us qs.length (qs.flatMap fun p => litCells p.1 p.2) ∧ Keep (fun j => j < W3.heap.size ∧ j ≠ W2.heap.size + 1) wr W ∧ qs.map (·.1) = mixTo r.body more out k ++ [M] ∧ qs.length ≤ 2 * k + 1 ∧ ∀ p, p ∈ qs → TermsIn W2.heap.size W3 p.2 p.1.atom.args) ⟨ps ++ [(M, Value.slice xm M.atom.args.length capm2)], _, ?_, set_at 2 _ Xy.out, own_kept (by simpa using Xho2.out) (kq _) (fun b hb => ?_), ?_, ?_, ?_, ?_⟩ ?_
            · exact XhK.out.trans ((Xkk2.out.mono fun b _ h => h.1).trans ((kq _).mono fun b _ h => h.2))
            · have := (own_cap Xho2.out).2.2.2
              simp only [Value.ownBlock, Option.some.injEq] at hb
              omega
            · exact (Xkk2.out.mono fun b _ h => h.1).trans ((kq _).mono fun b _ h => h.2)
            · rw [List.map_append, Xhps.out]; rfl
            · simp; omega
            · intro p hp
              rcases List.mem_append.1 hp with h | h
              · exact Xhpt.out p h
              · simp only [List.mem_singleton] at h; subst h; exact Xhtsm2.out
            clear XhS0 XhK0 XhK1 XhK2 XhK3 Xy Xho2 Xhk2 Xhg2 Xnob Xkk2 kq
            rintro W4 ⟨ps4, vs4, K4, sb4, O4, kk4, hps4, hpl4, hpt4⟩
            have hws4 := K4.size
            replace d0 := kk4.cell d0 ⟨show gb < W3.heap.size by omega, show gb ≠ W2.heap.size + 1 by omega⟩
            replace d1 := kk4.cell d1 ⟨show gb < W3.heap.size by omega, show gb ≠ W2.heap.size + 1 by omega⟩
            replace d2 := kk4.cell d2 ⟨show gb < W3.heap.size by omega, show gb ≠ W2.heap.size + 1 by omega⟩
            replace d3 := kk4.cell d3 ⟨show gb < W3.heap.size by omega, show gb ≠ W2.heap.size + 1 by omega⟩
            replace d4 := kk4.cell d4 ⟨show gb < W3.heap.size by omega, show gb ≠ W2.heap.size + 1 by omega⟩
            replace d5 := kk4.cell d5 ⟨show gb < W3.heap.size by omega, show gb ≠ W2.heap.size + 1 by omega⟩
            replace d6 := kk4.cell d6 ⟨show gb < W3.heap.size by omega, show gb ≠ W2.heap.size + 1 by omega⟩
            replace f0 := kk4.cell f0 ⟨show W2.heap.size < W3.heap.size by omega, show W2.heap.size ≠ W2.heap.size + 1 by omega⟩
            replace q0 := kk4.cell q0 ⟨show bo < W3.heap.size by omega, show bo ≠ W2.heap.size + 1 by omega⟩
            have hbow4 : bo < W4.heap.size := by omega
            have hgb4 : gb < W4.heap.size := by omega
            have s0 := cells_of_block sb4 2 _ rfl
            have sf := box_free sb4 2
            simp only [Nat.zero_add] at s0
            have XK4 := Lib.hid K4
            have Xsb4 := Lib.hid sb4
            have XO4 := Lib.hid O4
            have Xkk4 := Lib.hid kk4
            have Xhps4 := Lib.hid hps4
            have Xhpt4 := Lib.hid hpt4
            clear K4 sb4 O4 kk4 hps4 hpt4
            go_wp2_with fail
            go_roundw
            case rel => exact ⟨k + 1, ps4, vs4, by omega, by go_num, XK4.out, Xsb4.out, XO4.out, by rw [Xhmix2.out, List.append_nil]; exact Xhps4.out, by omega, Xhpt4.out⟩
            case measure => simp [intOf]; omega
          · obtain ⟨bo, oo, rfl, hbo, hco⟩ := Xhelo.out k _ hB
            have q0 := hK.cell (Xk3.out.cell (Xkw2.out.cell hco hbo) trivial) ⟨show bo < W3.heap.size by omega, show bo ≠ W2.heap.size + 1 by omega⟩
            simp only [Nat.mul_one] at q0
            have hlto : (k : Int) < out.length := by have := (List.getElem?_eq_some_iff.1 hB).1; omega
            have hbow : bo < wr.heap.size := by omega
            have hkn : (L.kind != 1) = false := by simp [hB1]
            have hmix2 : mixTo r.body more out (k + 1) = (mixTo r.body more out k ++ [M]) ++ [L] := by rw [hmix]; simp [hB, hB1]
            clear hmix hB hL hLd hco hB1
            have s0 := cells_of_block hsb 2 _ rfl
            have sf := box_free hsb 2
            simp only [Nat.zero_add] at s0
            have hgbr : gb < wr.heap.size := by omega
            have XhK := Lib.hid hK
            have Xhsb := Lib.hid hsb
            have XhO := Lib.hid hO
            have Xhps := Lib.hid hps
            have Xhpt := Lib.hid hpt
            have Xhmix2 := Lib.hid hmix2
            have Xhts := Lib.hid hts
            have Xhtsm2 := Lib.hid htsm2
            clear hK hsb hO hps hpt hmix2 hts htsm2
            go_wp2_with fail
            refine region_hoist rfl (fun W => W.cell? ⟨bm, om + k * 7, none⟩ = some (.int .i64 M.kind) ∧ W.cell? ⟨bm, om + k * 7 + 1, none⟩ = some (.string M.atom.pred) ∧ W.cell? ⟨bm, om + k * 7 + 2, none⟩ = some (.slice xm M.atom.args.length capm2) ∧ W.cell? ⟨bm, om + k * 7 + 3, none⟩ = some (.bool M.left.var) ∧ W.cell? ⟨bm, om + k * 7 + 4, none⟩ = some (.string M.left.text) ∧ W.cell? ⟨bm, om + k * 7 + 5, none⟩ = some (.bool M.right.var) ∧ W.cell? ⟨bm, om + k * 7 + 6, none⟩ = some (.string M.right.text) ∧ W.cell? ⟨W2.heap.size + 1, 2, none⟩ = some vs) [8, 9] ?_
            have hS0 := And.intro m0 (And.intro m1 (And.intro m2 (And.intro m3 (And.intro m4 (And.intro m5 (And.intro m6 (s0)))))))
            have XhS0 := Lib.hid hS0
            clear hS0
            refine hoist_take (i := 0) (v := ?_) rfl (by kernel_rfl) (by kernel_rfl) (by kernel_rfl) (by kernel_rfl) (fun _ _ _ h => h) XhS0.out (Or.inl ⟨by rfl, ?_⟩) ?_
            rotate_left
            · intro Wq hWq
              obtain ⟨x0, x1, x2, x3, x4, x5, x6, x7⟩ := hWq
              go_simp
              try with_reducible rfl
            try simp only [Act.put, List.setIfInBounds_toArray, List.set_cons_zero, List.set_cons_succ]
            refine hoist_take (i := 1) (v := ?_) rfl (by kernel_rfl) (by kernel_rfl) (by kernel_rfl) (by kernel_rfl) (fun _ _ _ h => h) XhS0.out (Or.inl ⟨by rfl, ?_⟩) ?_
            rotate_left
            · intro Wq hWq
              obtain ⟨x0, x1, x2, x3, x4, x5, x6, x7⟩ := hWq
              go_simp
              try with_reducible rfl
            try simp only [Act.put, List.setIfInBounds_toArray, List.set_cons_zero, List.set_cons_succ]
            refine hoist_take (i := 2) (v := ?_) rfl (by kernel_rfl) (by kernel_rfl) (by kernel_rfl) (by kernel_rfl) (fun _ _ _ h => h) XhS0.out (Or.inl ⟨by rfl, ?_⟩) ?_
            rotate_left
            · intro Wq hWq
              obtain ⟨x0, x1, x2, x3, x4, x5, x6, x7⟩ := hWq
              go_simp
              try with_reducible rfl
            try simp only [Act.put, List.setIfInBounds_toArray, List.set_cons_zero, List.set_cons_succ]
            refine hoist_take (i := 3) (v := ?_) rfl (by kernel_rfl) (by kernel_rfl) (by kernel_rfl) (by kernel_rfl) (fun _ _ _ h => h) XhS0.out (Or.inl ⟨by rfl, ?_⟩) ?_
            rotate_left
            · intro Wq hWq
              obtain ⟨x0, x1, x2, x3, x4, x5, x6, x7⟩ := hWq
              go_simp
              try with_reducible rfl
            try simp only [Act.put, List.setIfInBounds_toArray, List.set_cons_zero, List.set_cons_succ]
            refine hoist_take (i := 4) (v := ?_) rfl (by kernel_rfl) (by kernel_rfl) (by kernel_rfl) (by kernel_rfl) (fun _ _ _ h => h) XhS0.out (Or.inl ⟨by rfl, ?_⟩) ?_
            rotate_left
            · intro Wq hWq
              obtain ⟨x0, x1, x2, x3, x4, x5, x6, x7⟩ := hWq
              go_simp
              try with_reducible rfl
            try simp only [Act.put, List.setIfInBounds_toArray, List.set_cons_zero, List.set_cons_succ]
            refine hoist_take (i := 5) (v := ?_) rfl (by kernel_rfl) (by kernel_rfl) (by kernel_rfl) (by kernel_rfl) (fun _ _ _ h => h) XhS0.out (Or.inl ⟨by rfl, ?_⟩) ?_
            rotate_left
            · intro Wq hWq
              obtain ⟨x0, x1, x2, x3, x4, x5, x6, x7⟩ := hWq
              go_simp
              try with_reducible rfl
            try simp only [Act.put, List.setIfInBounds_toArray, List.set_cons_zero, List.set_cons_succ]
            refine hoist_one (i := 6) rfl (by kernel_rfl) (fun K hK => ?_)
            have XhK0 := Lib.hid hK
            clear hK
            go_wp2_with fail
            refine XhK0.out _ _ (fun _ => ?_) ?_
            · obtain ⟨x0, x1, x2, x3, x4, x5, x6, x7⟩ := XhS0.out
              exact ⟨old_cell x0 _, old_cell x1 _, old_cell x2 _, old_cell x3 _, old_cell x4 _, old_cell x5 _, old_cell x6 _, old_cell x7 _⟩
            refine hoist_one (i := 7) rfl (by kernel_rfl) (fun K hK => ?_)
            have XhK1 := Lib.hid hK
            clear hK
            refine list_app1 (v := vs) el_lits rfl _ _ rfl rfl rfl (own_kept XhO.out (show Keep (fun _ => True) wr _ from by first | exact (Keep.drew _ _).trans (Keep.alloc _ _ _) | exact (Keep.alloc _ _ _).trans (Keep.drew _ _)) (fun _ _ => trivial)) (litCells M (.slice xm M.atom.args.length capm2)) rfl (fun j u hj => by have := cells_of_block (new_block wr (.cells (litCells M (.slice xm M.atom.args.length capm2)).toArray 37)) j u (by simpa using hj); rw [Nat.zero_add] at this; exact this) (by simp [litCells, Value.oneCell']) (by omega) (by simp; omega) ?_
            intro g2 cap2 w2 ho2 hk2 hg2 hl2
            have nob : ∀ b, b < W3.heap.size → some b ≠ Value.ownBlock vs := fun b hb => own_not XhO.out hb
            have y := hk2.heap (old_block Xhsb.out _) (nob _ (by omega))
            have y2 := cells_of_block y 2 _ rfl
            have yf := box_free y 2
            simp only [Nat.zero_add] at y2
            have kk2 : Keep (fun b => b < W3.heap.size) wr w2 := (show Keep (fun b => b < W3.heap.size) wr _ from by first | exact (Keep.drew _ _).trans (Keep.alloc _ _ _) | exact (Keep.alloc _ _ _).trans (Keep.drew _ _)).trans (hk2.mono fun b _ h => nob b h)
            have Xy := Lib.hid y
            have Xho2 := Lib.hid ho2
            have Xhk2 := Lib.hid hk2
            have Xhg2 := Lib.hid hg2
            have Xnob := Lib.hid nob
            have Xkk2 := Lib.hid kk2
            clear y ho2 hk2 hg2 nob kk2
            clear m0 m1 m2 m3 m4 m5 m6 s0
            go_wp2_with fail
            refine XhK1.out _ _ (fun _ => ?_) ?_
            · obtain ⟨x0, x1, x2, x3, x4, x5, x6, x7⟩ := XhS0.out
              exact ⟨Xkk2.out.cell x0 (show bm < W3.heap.size by omega), Xkk2.out.cell x1 (show bm < W3.heap.size by omega), Xkk2.out.cell x2 (show bm < W3.heap.size by omega), Xkk2.out.cell x3 (show bm < W3.heap.size by omega), Xkk2.out.cell x4 (show bm < W3.heap.size by omega), Xkk2.out.cell x5 (show bm < W3.heap.size by omega), Xkk2.out.cell x6 (show bm < W3.heap.size by omega), Xkk2.out.cell x7 (show W2.heap.size + 1 < W3.heap.size by omega)⟩
            refine hoist_one (i := 8) rfl (by kernel_rfl) (fun K hK => ?_)
            have XhK2 := Lib.hid hK
            clear hK
            go_wp2_with fail
            refine XhK2.out _ _ (fun h => by simp at h) ?_
            refine hoist_one (i := 9) rfl (by kernel_rfl) (fun K hK => ?_)
            have XhK3 := Lib.hid hK
            clear hK
            go_wp2_with fail
            refine XhK3.out _ _ (fun h => by simp at h) ?_
            refine hoist_done (by kernel_rfl) ?_
            have kq : ∀ u, Keep (fun b => b ≠ W2.heap.size + 1) w2 (w2.setCell ⟨W2.heap.size + 1, 2, none⟩ u) := fun u => Keep.setCell _ _ _ (by simp)
            refine post_abs (fun W => ∃ (qs : List (LitD × Value)) (us : Value), Keep (fun j => j < W3.heap.size ∧ j ≠ W2.heap.size + 1) W3 W ∧ W.heap[W2.heap.size + 1]? = some (.cells #[.string r.head.pred, .slice (some ⟨gh, 0, none⟩) r.head.args.length caph, us] 27 (0, 0)) ∧ W.ownsRow W3.heap.size 37 7 us qs.length (qs.flatMap fun p => litCells p.1 p.2) ∧ Keep (fun j => j < W3.heap.size ∧ j ≠ W2.heap.size + 1) wr W ∧ qs.map (·.1) = mixTo r.body more out k ++ [M] ∧ qs.length ≤ 2 * k + 1 ∧ ∀ p, p ∈ qs → TermsIn W2.heap.size W3 p.2 p.1.atom.args) ⟨ps ++ [(M, Value.slice xm M.atom.args.length capm2)], _, ?_, set_at 2 _ Xy.out, own_kept (by simpa using Xho2.out) (kq _) (fun b hb => ?_), ?_, ?_, ?_, ?_⟩ ?_
            · exact XhK.out.trans ((Xkk2.out.mono fun b _ h => h.1).trans ((kq _).mono fun b _ h => h.2))
            · have := (own_cap Xho2.out).2.2.2
              simp only [Value.ownBlock, Option.some.injEq] at hb
              omega
            · exact (Xkk2.out.mono fun b _ h => h.1).trans ((kq _).mono fun b _ h => h.2)
            · rw [List.map_append, Xhps.out]; rfl
            · simp; omega
            · intro p hp
              rcases List.mem_append.1 hp with h | h
              · exact Xhpt.out p h
              · simp only [List.mem_singleton] at h; subst h; exact Xhtsm2.out
            clear XhS0 XhK0 XhK1 XhK2 XhK3 Xy Xho2 Xhk2 Xhg2 Xnob Xkk2 kq
            rintro W4 ⟨ps4, vs4, K4, sb4, O4, kk4, hps4, hpl4, hpt4⟩
            have hws4 := K4.size
            replace d0 := kk4.cell d0 ⟨show gb < W3.heap.size by omega, show gb ≠ W2.heap.size + 1 by omega⟩
            replace d1 := kk4.cell d1 ⟨show gb < W3.heap.size by omega, show gb ≠ W2.heap.size + 1 by omega⟩
            replace d2 := kk4.cell d2 ⟨show gb < W3.heap.size by omega, show gb ≠ W2.heap.size + 1 by omega⟩
            replace d3 := kk4.cell d3 ⟨show gb < W3.heap.size by omega, show gb ≠ W2.heap.size + 1 by omega⟩
            replace d4 := kk4.cell d4 ⟨show gb < W3.heap.size by omega, show gb ≠ W2.heap.size + 1 by omega⟩
            replace d5 := kk4.cell d5 ⟨show gb < W3.heap.size by omega, show gb ≠ W2.heap.size + 1 by omega⟩
            replace d6 := kk4.cell d6 ⟨show gb < W3.heap.size by omega, show gb ≠ W2.heap.size + 1 by omega⟩
            replace f0 := kk4.cell f0 ⟨show W2.heap.size < W3.heap.size by omega, show W2.heap.size ≠ W2.heap.size + 1 by omega⟩
            replace q0 := kk4.cell q0 ⟨show bo < W3.heap.size by omega, show bo ≠ W2.heap.size + 1 by omega⟩
            have hbow4 : bo < W4.heap.size := by omega
            have hgb4 : gb < W4.heap.size := by omega
            have s0 := cells_of_block sb4 2 _ rfl
            have sf := box_free sb4 2
            simp only [Nat.zero_add] at s0
            have XK4 := Lib.hid K4
            have Xsb4 := Lib.hid sb4
            have XO4 := Lib.hid O4
            have Xkk4 := Lib.hid kk4
            have Xhps4 := Lib.hid hps4
            have Xhpt4 := Lib.hid hpt4
            clear K4 sb4 O4 kk4 hps4 hpt4
            go_wp2_with fail
            refine region_hoist rfl (fun W => W.cell? ⟨gb, k * 7, none⟩ = some (.int .i64 L.kind) ∧ W.cell? ⟨gb, k * 7 + 1, none⟩ = some (.string L.atom.pred) ∧ W.cell? ⟨gb, k * 7 + 2, none⟩ = some (.slice aa L.atom.args.length caps) ∧ W.cell? ⟨gb, k * 7 + 3, none⟩ = some (.bool L.left.var) ∧ W.cell? ⟨gb, k * 7 + 4, none⟩ = some (.string L.left.text) ∧ W.cell? ⟨gb, k * 7 + 5, none⟩ = some (.bool L.right.var) ∧ W.cell? ⟨gb, k * 7 + 6, none⟩ = some (.string L.right.text) ∧ W.cell? ⟨W2.heap.size + 1, 2, none⟩ = some vs4 ∧ W.cell? ⟨W2.heap.size, 2, none⟩ = some (.slice (some ⟨gb, 0, none⟩) r.body.length capb)) [9, 10] ?_
            have hS0 := And.intro d0 (And.intro d1 (And.intro d2 (And.intro d3 (And.intro d4 (And.intro d5 (And.intro d6 (And.intro s0 (f0))))))))
            have XhS0 := Lib.hid hS0
            clear hS0
            refine hoist_take (i := 0) (v := ?_) rfl (by kernel_rfl) (by kernel_rfl) (by kernel_rfl) (by kernel_rfl) (fun _ _ _ h => h) XhS0.out (Or.inl ⟨by rfl, ?_⟩) ?_
            rotate_left
            · intro Wq hWq
              obtain ⟨x0, x1, x2, x3, x4, x5, x6, x7, x8⟩ := hWq
              go_simp
              try with_reducible rfl
            try simp only [Act.put, List.setIfInBounds_toArray, List.set_cons_zero, List.set_cons_succ]
            refine hoist_take (i := 1) (v := ?_) rfl (by kernel_rfl) (by kernel_rfl) (by kernel_rfl) (by kernel_rfl) (fun _ _ _ h => h) XhS0.out (Or.inl ⟨by rfl, ?_⟩) ?_
            rotate_left
            · intro Wq hWq
              obtain ⟨x0, x1, x2, x3, x4, x5, x6, x7, x8⟩ := hWq
              go_simp
              try with_reducible rfl
            try simp only [Act.put, List.setIfInBounds_toArray, List.set_cons_zero, List.set_cons_succ]
            refine hoist_take (i := 2) (v := ?_) rfl (by kernel_rfl) (by kernel_rfl) (by kernel_rfl) (by kernel_rfl) (fun _ _ _ h => h) XhS0.out (Or.inl ⟨by rfl, ?_⟩) ?_
            rotate_left
            · intro Wq hWq
              obtain ⟨x0, x1, x2, x3, x4, x5, x6, x7, x8⟩ := hWq
              go_simp
              try with_reducible rfl
            try simp only [Act.put, List.setIfInBounds_toArray, List.set_cons_zero, List.set_cons_succ]
            refine hoist_take (i := 3) (v := ?_) rfl (by kernel_rfl) (by kernel_rfl) (by kernel_rfl) (by kernel_rfl) (fun _ _ _ h => h) XhS0.out (Or.inl ⟨by rfl, ?_⟩) ?_
            rotate_left
            · intro Wq hWq
              obtain ⟨x0, x1, x2, x3, x4, x5, x6, x7, x8⟩ := hWq
              go_simp
              try with_reducible rfl
            try simp only [Act.put, List.setIfInBounds_toArray, List.set_cons_zero, List.set_cons_succ]
            refine hoist_take (i := 4) (v := ?_) rfl (by kernel_rfl) (by kernel_rfl) (by kernel_rfl) (by kernel_rfl) (fun _ _ _ h => h) XhS0.out (Or.inl ⟨by rfl, ?_⟩) ?_
            rotate_left
            · intro Wq hWq
              obtain ⟨x0, x1, x2, x3, x4, x5, x6, x7, x8⟩ := hWq
              go_simp
              try with_reducible rfl
            try simp only [Act.put, List.setIfInBounds_toArray, List.set_cons_zero, List.set_cons_succ]
            refine hoist_take (i := 5) (v := ?_) rfl (by kernel_rfl) (by kernel_rfl) (by kernel_rfl) (by kernel_rfl) (fun _ _ _ h => h) XhS0.out (Or.inl ⟨by rfl, ?_⟩) ?_
            rotate_left
            · intro Wq hWq
              obtain ⟨x0, x1, x2, x3, x4, x5, x6, x7, x8⟩ := hWq
              go_simp
              try with_reducible rfl
            try simp only [Act.put, List.setIfInBounds_toArray, List.set_cons_zero, List.set_cons_succ]
            refine hoist_take (i := 6) (v := ?_) rfl (by kernel_rfl) (by kernel_rfl) (by kernel_rfl) (by kernel_rfl) (fun _ _ _ h => h) XhS0.out (Or.inl ⟨by rfl, ?_⟩) ?_
            rotate_left
            · intro Wq hWq
              obtain ⟨x0, x1, x2, x3, x4, x5, x6, x7, x8⟩ := hWq
              go_simp
              try with_reducible rfl
            try simp only [Act.put, List.setIfInBounds_toArray, List.set_cons_zero, List.set_cons_succ]
            refine hoist_one (i := 7) rfl (by kernel_rfl) (fun K hK => ?_)
            have XhK0 := Lib.hid hK
            clear hK
            go_wp2_with fail
            refine XhK0.out _ _ (fun _ => ?_) ?_
            · obtain ⟨x0, x1, x2, x3, x4, x5, x6, x7, x8⟩ := XhS0.out
              exact ⟨old_cell x0 _, old_cell x1 _, old_cell x2 _, old_cell x3 _, old_cell x4 _, old_cell x5 _, old_cell x6 _, old_cell x7 _, old_cell x8 _⟩
            refine hoist_one (i := 8) rfl (by kernel_rfl) (fun K hK => ?_)
            have XhK1 := Lib.hid hK
            clear hK
            refine list_app1 (v := vs4) el_lits rfl _ _ rfl rfl rfl (own_kept XO4.out (show Keep (fun _ => True) W4 _ from by first | exact (Keep.drew _ _).trans (Keep.alloc _ _ _) | exact (Keep.alloc _ _ _).trans (Keep.drew _ _)) (fun _ _ => trivial)) (litCells L (.slice aa L.atom.args.length caps)) rfl (fun j u hj => by have := cells_of_block (new_block W4 (.cells (litCells L (.slice aa L.atom.args.length caps)).toArray 37)) j u (by simpa using hj); rw [Nat.zero_add] at this; exact this) (by simp [litCells, Value.oneCell']) (by omega) (by simp; omega) ?_
            intro g2 cap2 w2 ho2 hk2 hg2 hl2
            have nob : ∀ b, b < W3.heap.size → some b ≠ Value.ownBlock vs4 := fun b hb => own_not XO4.out hb
            have y := hk2.heap (old_block Xsb4.out _) (nob _ (by omega))
            have y2 := cells_of_block y 2 _ rfl
            have yf := box_free y 2
            simp only [Nat.zero_add] at y2
            have kk2 : Keep (fun b => b < W3.heap.size) W4 w2 := (show Keep (fun b => b < W3.heap.size) W4 _ from by first | exact (Keep.drew _ _).trans (Keep.alloc _ _ _) | exact (Keep.alloc _ _ _).trans (Keep.drew _ _)).trans (hk2.mono fun b _ h => nob b h)
            have Xy := Lib.hid y
            have Xho2 := Lib.hid ho2
            have Xhk2 := Lib.hid hk2
            have Xhg2 := Lib.hid hg2
            have Xnob := Lib.hid nob
            have Xkk2 := Lib.hid kk2
            clear y ho2 hk2 hg2 nob kk2
            clear d0 d1 d2 d3 d4 d5 d6 s0 f0
            go_wp2_with fail
            refine XhK1.out _ _ (fun _ => ?_) ?_
            · obtain ⟨x0, x1, x2, x3, x4, x5, x6, x7, x8⟩ := XhS0.out
              exact ⟨Xkk2.out.cell x0 (show gb < W3.heap.size by omega), Xkk2.out.cell x1 (show gb < W3.heap.size by omega), Xkk2.out.cell x2 (show gb < W3.heap.size by omega), Xkk2.out.cell x3 (show gb < W3.heap.size by omega), Xkk2.out.cell x4 (show gb < W3.heap.size by omega), Xkk2.out.cell x5 (show gb < W3.heap.size by omega), Xkk2.out.cell x6 (show gb < W3.heap.size by omega), Xkk2.out.cell x7 (show W2.heap.size + 1 < W3.heap.size by omega), Xkk2.out.cell x8 (show W2.heap.size < W3.heap.size by omega)⟩
            refine hoist_one (i := 9) rfl (by kernel_rfl) (fun K hK => ?_)
            have XhK2 := Lib.hid hK
            clear hK
            go_wp2_with fail
            refine XhK2.out _ _ (fun h => by simp at h) ?_
            refine hoist_one (i := 10) rfl (by kernel_rfl) (fun K hK => ?_)
            have XhK3 := Lib.hid hK
            clear hK
            go_wp2_with fail
            refine XhK3.out _ _ (fun h => by simp at h) ?_
            refine hoist_done (by kernel_rfl) ?_
            have kq : ∀ u, Keep (fun b => b ≠ W2.heap.size + 1) w2 (w2.setCell ⟨W2.heap.size + 1, 2, none⟩ u) := fun u => Keep.setCell _ _ _ (by simp)
            refine post_abs (fun W => ∃ (qs : List (LitD × Value)) (us : Value), Keep (fun j => j < W3.heap.size ∧ j ≠ W2.heap.size + 1) W3 W ∧ W.heap[W2.heap.size + 1]? = some (.cells #[.string r.head.pred, .slice (some ⟨gh, 0, none⟩) r.head.args.length caph, us] 27 (0, 0)) ∧ W.ownsRow W3.heap.size 37 7 us qs.length (qs.flatMap fun p => litCells p.1 p.2) ∧ Keep (fun j => j < W3.heap.size ∧ j ≠ W2.heap.size + 1) W4 W ∧ qs.map (·.1) = mixTo r.body more out (k + 1) ∧ qs.length ≤ 2 * (k + 1) ∧ ∀ p, p ∈ qs → TermsIn W2.heap.size W3 p.2 p.1.atom.args) ⟨ps4 ++ [(L, Value.slice aa L.atom.args.length caps)], _, ?_, set_at 2 _ Xy.out, own_kept (by simpa using Xho2.out) (kq _) (fun b hb => ?_), ?_, ?_, ?_, ?_⟩ ?_
            · exact XK4.out.trans ((Xkk2.out.mono fun b _ h => h.1).trans ((kq _).mono fun b _ h => h.2))
            · have := (own_cap Xho2.out).2.2.2
              simp only [Value.ownBlock, Option.some.injEq] at hb
              omega
            · exact (Xkk2.out.mono fun b _ h => h.1).trans ((kq _).mono fun b _ h => h.2)
            · rw [List.map_append, Xhps4.out, Xhmix2.out]; rfl
            · simp; omega
            · intro p hp
              rcases List.mem_append.1 hp with h | h
              · exact Xhpt4.out p h
              · simp only [List.mem_singleton] at h; subst h; exact Xhts.out
            clear XhS0 XhK0 XhK1 XhK2 XhK3 Xy Xho2 Xhk2 Xhg2 Xnob Xkk2 kq
            rintro W5 ⟨ps5, vs5, K5, sb5, O5, kk5, hps5, hpl5, hpt5⟩
            have hws5 := K5.size
            have XK5 := Lib.hid K5
            have Xsb5 := Lib.hid sb5
            have XO5 := Lib.hid O5
            have Xkk5 := Lib.hid kk5
            have Xhps5 := Lib.hid hps5
            have Xhpt5 := Lib.hid hpt5
            clear K5 sb5 O5 kk5 hps5 hpt5
            go_wp2_with fail
            go_roundw
            case rel => exact ⟨k + 1, ps5, vs5, by omega, by go_num, XK5.out, Xsb5.out, XO5.out, Xhps5.out, hpl5, Xhpt5.out⟩
            case measure => simp [intOf]; omega
        · have hltm : ¬ (k : Int) < more.length := by omega
          have hmix : mixTo r.body more out (k + 1) = (mixTo r.body more out k ++ []) ++ (if (out[k]?.getD false && L.kind != 1) = true then [] else [L]) := by
            have : more[k]? = none := List.getElem?_eq_none (by omega)
            rw [mixTo, hLd, mixAt, this]; simp
          clear hA
          rcases hB with hB | hB | ⟨hB, hB1⟩ | ⟨hB, hB1⟩
          · have hlto : ¬ (k : Int) < out.length := by omega
            have hmix2 : mixTo r.body more out (k + 1) = (mixTo r.body more out k ++ []) ++ [L] := by
              have : out[k]? = none := List.getElem?_eq_none (by omega)
              rw [hmix]; simp [this]
            clear hmix hB hL hLd
            have s0 := cells_of_block hsb 2 _ rfl
            have sf := box_free hsb 2
            simp only [Nat.zero_add] at s0
            have hgbr : gb < wr.heap.size := by omega
            have XhK := Lib.hid hK
            have Xhsb := Lib.hid hsb
            have XhO := Lib.hid hO
            have Xhps := Lib.hid hps
            have Xhpt := Lib.hid hpt
            have Xhmix2 := Lib.hid hmix2
            have Xhts := Lib.hid hts
            clear hK hsb hO hps hpt hmix2 hts
            go_wp2_with fail
            refine region_hoist rfl (fun W => W.cell? ⟨gb, k * 7, none⟩ = some (.int .i64 L.kind) ∧ W.cell? ⟨gb, k * 7 + 1, none⟩ = some (.string L.atom.pred) ∧ W.cell? ⟨gb, k * 7 + 2, none⟩ = some (.slice aa L.atom.args.length caps) ∧ W.cell? ⟨gb, k * 7 + 3, none⟩ = some (.bool L.left.var) ∧ W.cell? ⟨gb, k * 7 + 4, none⟩ = some (.string L.left.text) ∧ W.cell? ⟨gb, k * 7 + 5, none⟩ = some (.bool L.right.var) ∧ W.cell? ⟨gb, k * 7 + 6, none⟩ = some (.string L.right.text) ∧ W.cell? ⟨W2.heap.size + 1, 2, none⟩ = some vs ∧ W.cell? ⟨W2.heap.size, 2, none⟩ = some (.slice (some ⟨gb, 0, none⟩) r.body.length capb)) [9, 10] ?_
            have hS0 := And.intro d0 (And.intro d1 (And.intro d2 (And.intro d3 (And.intro d4 (And.intro d5 (And.intro d6 (And.intro s0 (f0))))))))
            have XhS0 := Lib.hid hS0
            clear hS0
            refine hoist_take (i := 0) (v := ?_) rfl (by kernel_rfl) (by kernel_rfl) (by kernel_rfl) (by kernel_rfl) (fun _ _ _ h => h) XhS0.out (Or.inl ⟨by rfl, ?_⟩) ?_
            rotate_left
            · intro Wq hWq
              obtain ⟨x0, x1, x2, x3, x4, x5, x6, x7, x8⟩ := hWq
              go_simp
              try with_reducible rfl
            try simp only [Act.put, List.setIfInBounds_toArray, List.set_cons_zero, List.set_cons_succ]
            refine hoist_take (i := 1) (v := ?_) rfl (by kernel_rfl) (by kernel_rfl) (by kernel_rfl) (by kernel_rfl) (fun _ _ _ h => h) XhS0.out (Or.inl ⟨by rfl, ?_⟩) ?_
            rotate_left
            · intro Wq hWq
              obtain ⟨x0, x1, x2, x3, x4, x5, x6, x7, x8⟩ := hWq
              go_simp
              try with_reducible rfl
            try simp only [Act.put, List.setIfInBounds_toArray, List.set_cons_zero, List.set_cons_succ]
            refine hoist_take (i := 2) (v := ?_) rfl (by kernel_rfl) (by kernel_rfl) (by kernel_rfl) (by kernel_rfl) (fun _ _ _ h => h) XhS0.out (Or.inl ⟨by rfl, ?_⟩) ?_
            rotate_left
            · intro Wq hWq
              obtain ⟨x0, x1, x2, x3, x4, x5, x6, x7, x8⟩ := hWq
              go_simp
              try with_reducible rfl
            try simp only [Act.put, List.setIfInBounds_toArray, List.set_cons_zero, List.set_cons_succ]
            refine hoist_take (i := 3) (v := ?_) rfl (by kernel_rfl) (by kernel_rfl) (by kernel_rfl) (by kernel_rfl) (fun _ _ _ h => h) XhS0.out (Or.inl ⟨by rfl, ?_⟩) ?_
            rotate_left
            · intro Wq hWq
              obtain ⟨x0, x1, x2, x3, x4, x5, x6, x7, x8⟩ := hWq
              go_simp
              try with_reducible rfl
            try simp only [Act.put, List.setIfInBounds_toArray, List.set_cons_zero, List.set_cons_succ]
            refine hoist_take (i := 4) (v := ?_) rfl (by kernel_rfl) (by kernel_rfl) (by kernel_rfl) (by kernel_rfl) (fun _ _ _ h => h) XhS0.out (Or.inl ⟨by rfl, ?_⟩) ?_
            rotate_left
            · intro Wq hWq
              obtain ⟨x0, x1, x2, x3, x4, x5, x6, x7, x8⟩ := hWq
              go_simp
              try with_reducible rfl
            try simp only [Act.put, List.setIfInBounds_toArray, List.set_cons_zero, List.set_cons_succ]
            refine hoist_take (i := 5) (v := ?_) rfl (by kernel_rfl) (by kernel_rfl) (by kernel_rfl) (by kernel_rfl) (fun _ _ _ h => h) XhS0.out (Or.inl ⟨by rfl, ?_⟩) ?_
            rotate_left
            · intro Wq hWq
              obtain ⟨x0, x1, x2, x3, x4, x5, x6, x7, x8⟩ := hWq
              go_simp
              try with_reducible rfl
            try simp only [Act.put, List.setIfInBounds_toArray, List.set_cons_zero, List.set_cons_succ]
            refine hoist_take (i := 6) (v := ?_) rfl (by kernel_rfl) (by kernel_rfl) (by kernel_rfl) (by kernel_rfl) (fun _ _ _ h => h) XhS0.out (Or.inl ⟨by rfl, ?_⟩) ?_
            rotate_left
            · intro Wq hWq
              obtain ⟨x0, x1, x2, x3, x4, x5, x6, x7, x8⟩ := hWq
              go_simp
              try with_reducible rfl
            try simp only [Act.put, List.setIfInBounds_toArray, List.set_cons_zero, List.set_cons_succ]
            refine hoist_one (i := 7) rfl (by kernel_rfl) (fun K hK => ?_)
            have XhK0 := Lib.hid hK
            clear hK
            go_wp2_with fail
            refine XhK0.out _ _ (fun _ => ?_) ?_
            · obtain ⟨x0, x1, x2, x3, x4, x5, x6, x7, x8⟩ := XhS0.out
              exact ⟨old_cell x0 _, old_cell x1 _, old_cell x2 _, old_cell x3 _, old_cell x4 _, old_cell x5 _, old_cell x6 _, old_cell x7 _, old_cell x8 _⟩
            refine hoist_one (i := 8) rfl (by kernel_rfl) (fun K hK => ?_)
            have XhK1 := Lib.hid hK
            clear hK
            refine list_app1 (v := vs) el_lits rfl _ _ rfl rfl rfl (own_kept XhO.out (show Keep (fun _ => True) wr _ from by first | exact (Keep.drew _ _).trans (Keep.alloc _ _ _) | exact (Keep.alloc _ _ _).trans (Keep.drew _ _)) (fun _ _ => trivial)) (litCells L (.slice aa L.atom.args.length caps)) rfl (fun j u hj => by have := cells_of_block (new_block wr (.cells (litCells L (.slice aa L.atom.args.length caps)).toArray 37)) j u (by simpa using hj); rw [Nat.zero_add] at this; exact this) (by simp [litCells, Value.oneCell']) (by omega) (by simp; omega) ?_
            intro g2 cap2 w2 ho2 hk2 hg2 hl2
            have nob : ∀ b, b < W3.heap.size → some b ≠ Value.ownBlock vs := fun b hb => own_not XhO.out hb
            have y := hk2.heap (old_block Xhsb.out _) (nob _ (by omega))
            have y2 := cells_of_block y 2 _ rfl
            have yf := box_free y 2
            simp only [Nat.zero_add] at y2
            have kk2 : Keep (fun b => b < W3.heap.size) wr w2 := (show Keep (fun b => b < W3.heap.size) wr _ from by first | exact (Keep.drew _ _).trans (Keep.alloc _ _ _) | exact (Keep.alloc _ _ _).trans (Keep.drew _ _)).trans (hk2.mono fun b _ h => nob b h)
            have Xy := Lib.hid y
            have Xho2 := Lib.hid ho2
            have Xhk2 := Lib.hid hk2
            have Xhg2 := Lib.hid hg2
            have Xnob := Lib.hid nob
            have Xkk2 := Lib.hid kk2
            clear y ho2 hk2 hg2 nob kk2
            clear d0 d1 d2 d3 d4 d5 d6 s0 f0
            go_wp2_with fail
            refine XhK1.out _ _ (fun _ => ?_) ?_
            · obtain ⟨x0, x1, x2, x3, x4, x5, x6, x7, x8⟩ := XhS0.out
              exact ⟨Xkk2.out.cell x0 (show gb < W3.heap.size by omega), Xkk2.out.cell x1 (show gb < W3.heap.size by omega), Xkk2.out.cell x2 (show gb < W3.heap.size by omega), Xkk2.out.cell x3 (show gb < W3.heap.size by omega), Xkk2.out.cell x4 (show gb < W3.heap.size by omega), Xkk2.out.cell x5 (show gb < W3.heap.size by omega), Xkk2.out.cell x6 (show gb < W3.heap.size by omega), Xkk2.out.cell x7 (show W2.heap.size + 1 < W3.heap.size by omega), Xkk2.out.cell x8 (show W2.heap.size < W3.heap.size by omega)⟩
            refine hoist_one (i := 9) rfl (by kernel_rfl) (fun K hK => ?_)
            have XhK2 := Lib.hid hK
            clear hK
            go_wp2_with fail
            refine XhK2.out _ _ (fun h => by simp at h) ?_
            refine hoist_one (i := 10) rfl (by kernel_rfl) (fun K hK => ?_)
            have XhK3 := Lib.hid hK
            clear hK
            go_wp2_with fail
            refine XhK3.out _ _ (fun h => by simp at h) ?_
            refine hoist_done (by kernel_rfl) ?_
            have kq : ∀ u, Keep (fun b => b ≠ W2.heap.size + 1) w2 (w2.setCell ⟨W2.heap.size + 1, 2, none⟩ u) := fun u => Keep.setCell _ _ _ (by simp)
            refine post_abs (fun W => ∃ (qs : List (LitD × Value)) (us : Value), Keep (fun j => j < W3.heap.size ∧ j ≠ W2.heap.size + 1) W3 W ∧ W.heap[W2.heap.size + 1]? = some (.cells #[.string r.head.pred, .slice (some ⟨gh, 0, none⟩) r.head.args.length caph, us] 27 (0, 0)) ∧ W.ownsRow W3.heap.size 37 7 us qs.length (qs.flatMap fun p => litCells p.1 p.2) ∧ Keep (fun j => j < W3.heap.size ∧ j ≠ W2.heap.size + 1) wr W ∧ qs.map (·.1) = mixTo r.body more out (k + 1) ∧ qs.length ≤ 2 * (k + 1) ∧ ∀ p, p ∈ qs → TermsIn W2.heap.size W3 p.2 p.1.atom.args) ⟨ps ++ [(L, Value.slice aa L.atom.args.length caps)], _, ?_, set_at 2 _ Xy.out, own_kept (by simpa using Xho2.out) (kq _) (fun b hb => ?_), ?_, ?_, ?_, ?_⟩ ?_
            · exact XhK.out.trans ((Xkk2.out.mono fun b _ h => h.1).trans ((kq _).mono fun b _ h => h.2))
            · have := (own_cap Xho2.out).2.2.2
              simp only [Value.ownBlock, Option.some.injEq] at hb
              omega
            · exact (Xkk2.out.mono fun b _ h => h.1).trans ((kq _).mono fun b _ h => h.2)
            · rw [List.map_append, Xhps.out, Xhmix2.out, List.append_nil]; rfl
            · simp; omega
            · intro p hp
              rcases List.mem_append.1 hp with h | h
              · exact Xhpt.out p h
              · simp only [List.mem_singleton] at h; subst h; exact Xhts.out
            clear XhS0 XhK0 XhK1 XhK2 XhK3 Xy Xho2 Xhk2 Xhg2 Xnob Xkk2 kq
            rintro W5 ⟨ps5, vs5, K5, sb5, O5, kk5, hps5, hpl5, hpt5⟩
            have hws5 := K5.size
            have XK5 := Lib.hid K5
            have Xsb5 := Lib.hid sb5
            have XO5 := Lib.hid O5
            have Xkk5 := Lib.hid kk5
            have Xhps5 := Lib.hid hps5
            have Xhpt5 := Lib.hid hpt5
            clear K5 sb5 O5 kk5 hps5 hpt5
            go_wp2_with fail
            go_roundw
            case rel => exact ⟨k + 1, ps5, vs5, by omega, by go_num, XK5.out, Xsb5.out, XO5.out, Xhps5.out, hpl5, Xhpt5.out⟩
            case measure => simp [intOf]; omega
          · obtain ⟨bo, oo, rfl, hbo, hco⟩ := Xhelo.out k _ hB
            have q0 := hK.cell (Xk3.out.cell (Xkw2.out.cell hco hbo) trivial) ⟨show bo < W3.heap.size by omega, show bo ≠ W2.heap.size + 1 by omega⟩
            simp only [Nat.mul_one] at q0
            have hlto : (k : Int) < out.length := by have := (List.getElem?_eq_some_iff.1 hB).1; omega
            have hbow : bo < wr.heap.size := by omega
            have hmix2 : mixTo r.body more out (k + 1) = (mixTo r.body more out k ++ []) ++ [L] := by rw [hmix]; simp [hB]
            clear hmix hB hL hLd hco
            have s0 := cells_of_block hsb 2 _ rfl
            have sf := box_free hsb 2
            simp only [Nat.zero_add] at s0
            have hgbr : gb < wr.heap.size := by omega
            have XhK := Lib.hid hK
            have Xhsb := Lib.hid hsb
            have XhO := Lib.hid hO
            have Xhps := Lib.hid hps
            have Xhpt := Lib.hid hpt
            have Xhmix2 := Lib.hid hmix2
            have Xhts := Lib.hid hts
            clear hK hsb hO hps hpt hmix2 hts
            go_wp2_with fail
            refine region_hoist rfl (fun W => W.cell? ⟨gb, k * 7, none⟩ = some (.int .i64 L.kind) ∧ W.cell? ⟨gb, k * 7 + 1, none⟩ = some (.string L.atom.pred) ∧ W.cell? ⟨gb, k * 7 + 2, none⟩ = some (.slice aa L.atom.args.length caps) ∧ W.cell? ⟨gb, k * 7 + 3, none⟩ = some (.bool L.left.var) ∧ W.cell? ⟨gb, k * 7 + 4, none⟩ = some (.string L.left.text) ∧ W.cell? ⟨gb, k * 7 + 5, none⟩ = some (.bool L.right.var) ∧ W.cell? ⟨gb, k * 7 + 6, none⟩ = some (.string L.right.text) ∧ W.cell? ⟨W2.heap.size + 1, 2, none⟩ = some vs ∧ W.cell? ⟨W2.heap.size, 2, none⟩ = some (.slice (some ⟨gb, 0, none⟩) r.body.length capb)) [9, 10] ?_
            have hS0 := And.intro d0 (And.intro d1 (And.intro d2 (And.intro d3 (And.intro d4 (And.intro d5 (And.intro d6 (And.intro s0 (f0))))))))
            have XhS0 := Lib.hid hS0
            clear hS0
            refine hoist_take (i := 0) (v := ?_) rfl (by kernel_rfl) (by kernel_rfl) (by kernel_rfl) (by kernel_rfl) (fun _ _ _ h => h) XhS0.out (Or.inl ⟨by rfl, ?_⟩) ?_
            rotate_left
            · intro Wq hWq
              obtain ⟨x0, x1, x2, x3, x4, x5, x6, x7, x8⟩ := hWq
              go_simp
              try with_reducible rfl
            try simp only [Act.put, List.setIfInBounds_toArray, List.set_cons_zero, List.set_cons_succ]
            refine hoist_take (i := 1) (v := ?_) rfl (by kernel_rfl) (by kernel_rfl) (by kernel_rfl) (by kernel_rfl) (fun _ _ _ h => h) XhS0.out (Or.inl ⟨by rfl, ?_⟩) ?_
            rotate_left
            · intro Wq hWq
              obtain ⟨x0, x1, x2, x3, x4, x5, x6, x7, x8⟩ := hWq
              go_simp
              try with_reducible rfl
            try simp only [Act.put, List.setIfInBounds_toArray, List.set_cons_zero, List.set_cons_succ]
            refine hoist_take (i := 2) (v := ?_) rfl (by kernel_rfl) (by kernel_rfl) (by kernel_rfl) (by kernel_rfl) (fun _ _ _ h => h) XhS0.out (Or.inl ⟨by rfl, ?_⟩) ?_
            rotate_left
            · intro Wq hWq
              obtain ⟨x0, x1, x2, x3, x4, x5, x6, x7, x8⟩ := hWq
              go_simp
              try with_reducible rfl
            try simp only [Act.put, List.setIfInBounds_toArray, List.set_cons_zero, List.set_cons_succ]
            refine hoist_take (i := 3) (v := ?_) rfl (by kernel_rfl) (by kernel_rfl) (by kernel_rfl) (by kernel_rfl) (fun _ _ _ h => h) XhS0.out (Or.inl ⟨by rfl, ?_⟩) ?_
            rotate_left
            · intro Wq hWq
              obtain ⟨x0, x1, x2, x3, x4, x5, x6, x7, x8⟩ := hWq
              go_simp
              try with_reducible rfl
            try simp only [Act.put, List.setIfInBounds_toArray, List.set_cons_zero, List.set_cons_succ]
            refine hoist_take (i := 4) (v := ?_) rfl (by kernel_rfl) (by kernel_rfl) (by kernel_rfl) (by kernel_rfl) (fun _ _ _ h => h) XhS0.out (Or.inl ⟨by rfl, ?_⟩) ?_
            rotate_left
            · intro Wq hWq
              obtain ⟨x0, x1, x2, x3, x4, x5, x6, x7, x8⟩ := hWq
              go_simp
              try with_reducible rfl
            try simp only [Act.put, List.setIfInBounds_toArray, List.set_cons_zero, List.set_cons_succ]
            refine hoist_take (i := 5) (v := ?_) rfl (by kernel_rfl) (by kernel_rfl) (by kernel_rfl) (by kernel_rfl) (fun _ _ _ h => h) XhS0.out (Or.inl ⟨by rfl, ?_⟩) ?_
            rotate_left
            · intro Wq hWq
              obtain ⟨x0, x1, x2, x3, x4, x5, x6, x7, x8⟩ := hWq
              go_simp
              try with_reducible rfl
            try simp only [Act.put, List.setIfInBounds_toArray, List.set_cons_zero, List.set_cons_succ]
            refine hoist_take (i := 6) (v := ?_) rfl (by kernel_rfl) (by kernel_rfl) (by kernel_rfl) (by kernel_rfl) (fun _ _ _ h => h) XhS0.out (Or.inl ⟨by rfl, ?_⟩) ?_
            rotate_left
            · intro Wq hWq
              obtain ⟨x0, x1, x2, x3, x4, x5, x6, x7, x8⟩ := hWq
              go_simp
              try with_reducible rfl
            try simp only [Act.put, List.setIfInBounds_toArray, List.set_cons_zero, List.set_cons_succ]
            refine hoist_one (i := 7) rfl (by kernel_rfl) (fun K hK => ?_)
            have XhK0 := Lib.hid hK
            clear hK
            go_wp2_with fail
            refine XhK0.out _ _ (fun _ => ?_) ?_
            · obtain ⟨x0, x1, x2, x3, x4, x5, x6, x7, x8⟩ := XhS0.out
              exact ⟨old_cell x0 _, old_cell x1 _, old_cell x2 _, old_cell x3 _, old_cell x4 _, old_cell x5 _, old_cell x6 _, old_cell x7 _, old_cell x8 _⟩
            refine hoist_one (i := 8) rfl (by kernel_rfl) (fun K hK => ?_)
            have XhK1 := Lib.hid hK
            clear hK
            refine list_app1 (v := vs) el_lits rfl _ _ rfl rfl rfl (own_kept XhO.out (show Keep (fun _ => True) wr _ from by first | exact (Keep.drew _ _).trans (Keep.alloc _ _ _) | exact (Keep.alloc _ _ _).trans (Keep.drew _ _)) (fun _ _ => trivial)) (litCells L (.slice aa L.atom.args.length caps)) rfl (fun j u hj => by have := cells_of_block (new_block wr (.cells (litCells L (.slice aa L.atom.args.length caps)).toArray 37)) j u (by simpa using hj); rw [Nat.zero_add] at this; exact this) (by simp [litCells, Value.oneCell']) (by omega) (by simp; omega) ?_
            intro g2 cap2 w2 ho2 hk2 hg2 hl2
            have nob : ∀ b, b < W3.heap.size → some b ≠ Value.ownBlock vs := fun b hb => own_not XhO.out hb
            have y := hk2.heap (old_block Xhsb.out _) (nob _ (by omega))
            have y2 := cells_of_block y 2 _ rfl
            have yf := box_free y 2
            simp only [Nat.zero_add] at y2
            have kk2 : Keep (fun b => b < W3.heap.size) wr w2 := (show Keep (fun b => b < W3.heap.size) wr _ from by first | exact (Keep.drew _ _).trans (Keep.alloc _ _ _) | exact (Keep.alloc _ _ _).trans (Keep.drew _ _)).trans (hk2.mono fun b _ h => nob b h)
            have Xy := Lib.hid y
            have Xho2 := Lib.hid ho2
            have Xhk2 := Lib.hid hk2
            have Xhg2 := Lib.hid hg2
            have Xnob := Lib.hid nob
            have Xkk2 := Lib.hid kk2
            clear y ho2 hk2 hg2 nob kk2
            clear d0 d1 d2 d3 d4 d5 d6 s0 f0
            go_wp2_with fail
            refine XhK1.out _ _ (fun _ => ?_) ?_
            · obtain ⟨x0, x1, x2, x3, x4, x5, x6, x7, x8⟩ := XhS0.out
              exact ⟨Xkk2.out.cell x0 (show gb < W3.heap.size by omega), Xkk2.out.cell x1 (show gb < W3.heap.size by omega), Xkk2.out.cell x2 (show gb < W3.heap.size by omega), Xkk2.out.cell x3 (show gb < W3.heap.size by omega), Xkk2.out.cell x4 (show gb < W3.heap.size by omega), Xkk2.out.cell x5 (show gb < W3.heap.size by omega), Xkk2.out.cell x6 (show gb < W3.heap.size by omega), Xkk2.out.cell x7 (show W2.heap.size + 1 < W3.heap.size by omega), Xkk2.out.cell x8 (show W2.heap.size < W3.heap.size by omega)⟩
            refine hoist_one (i := 9) rfl (by kernel_rfl) (fun K hK => ?_)
            have XhK2 := Lib.hid hK
            clear hK
            go_wp2_with fail
            refine XhK2.out _ _ (fun h => by simp at h) ?_
            refine hoist_one (i := 10) rfl (by kernel_rfl) (fun K hK => ?_)
            have XhK3 := Lib.hid hK
            clear hK
            go_wp2_with fail
            refine XhK3.out _ _ (fun h => by simp at h) ?_
            refine hoist_done (by kernel_rfl) ?_
            have kq : ∀ u, Keep (fun b => b ≠ W2.heap.size + 1) w2 (w2.setCell ⟨W2.heap.size + 1, 2, none⟩ u) := fun u => Keep.setCell _ _ _ (by simp)
            refine post_abs (fun W => ∃ (qs : List (LitD × Value)) (us : Value), Keep (fun j => j < W3.heap.size ∧ j ≠ W2.heap.size + 1) W3 W ∧ W.heap[W2.heap.size + 1]? = some (.cells #[.string r.head.pred, .slice (some ⟨gh, 0, none⟩) r.head.args.length caph, us] 27 (0, 0)) ∧ W.ownsRow W3.heap.size 37 7 us qs.length (qs.flatMap fun p => litCells p.1 p.2) ∧ Keep (fun j => j < W3.heap.size ∧ j ≠ W2.heap.size + 1) wr W ∧ qs.map (·.1) = mixTo r.body more out (k + 1) ∧ qs.length ≤ 2 * (k + 1) ∧ ∀ p, p ∈ qs → TermsIn W2.heap.size W3 p.2 p.1.atom.args) ⟨ps ++ [(L, Value.slice aa L.atom.args.length caps)], _, ?_, set_at 2 _ Xy.out, own_kept (by simpa using Xho2.out) (kq _) (fun b hb => ?_), ?_, ?_, ?_, ?_⟩ ?_
            · exact XhK.out.trans ((Xkk2.out.mono fun b _ h => h.1).trans ((kq _).mono fun b _ h => h.2))
            · have := (own_cap Xho2.out).2.2.2
              simp only [Value.ownBlock, Option.some.injEq] at hb
              omega
            · exact (Xkk2.out.mono fun b _ h => h.1).trans ((kq _).mono fun b _ h => h.2)
            · rw [List.map_append, Xhps.out, Xhmix2.out, List.append_nil]; rfl
            · simp; omega
            · intro p hp
              rcases List.mem_append.1 hp with h | h
              · exact Xhpt.out p h
              · simp only [List.mem_singleton] at h; subst h; exact Xhts.out
            clear XhS0 XhK0 XhK1 XhK2 XhK3 Xy Xho2 Xhk2 Xhg2 Xnob Xkk2 kq
            rintro W5 ⟨ps5, vs5, K5, sb5, O5, kk5, hps5, hpl5, hpt5⟩
            have hws5 := K5.size
            have XK5 := Lib.hid K5
            have Xsb5 := Lib.hid sb5
            have XO5 := Lib.hid O5
            have Xkk5 := Lib.hid kk5
            have Xhps5 := Lib.hid hps5
            have Xhpt5 := Lib.hid hpt5
            clear K5 sb5 O5 kk5 hps5 hpt5
            go_wp2_with fail
            go_roundw
            case rel => exact ⟨k + 1, ps5, vs5, by omega, by go_num, XK5.out, Xsb5.out, XO5.out, Xhps5.out, hpl5, Xhpt5.out⟩
            case measure => simp [intOf]; omega
          · obtain ⟨bo, oo, rfl, hbo, hco⟩ := Xhelo.out k _ hB
            have q0 := hK.cell (Xk3.out.cell (Xkw2.out.cell hco hbo) trivial) ⟨show bo < W3.heap.size by omega, show bo ≠ W2.heap.size + 1 by omega⟩
            simp only [Nat.mul_one] at q0
            have hlto : (k : Int) < out.length := by have := (List.getElem?_eq_some_iff.1 hB).1; omega
            have hbow : bo < wr.heap.size := by omega
            have hkn : (L.kind != 1) = true := by simp [hB1]
            have hmix2 : mixTo r.body more out (k + 1) = (mixTo r.body more out k ++ []) ++ [] := by rw [hmix]; simp [hB, hB1]
            clear hmix hB hL hLd hco hB1
            have s0 := cells_of_block hsb 2 _ rfl
            have sf := box_free hsb 2
            simp only [Nat.zero_add] at s0
            have hgbr : gb < wr.heap.size := by omega
            have XhK := Lib.hid hK
            have Xhsb := Lib.hid hsb
            have XhO := Lib.hid hO
            have Xhps := Lib.hid hps
            have Xhpt := Lib.hid hpt
            have Xhmix2 := Lib.hid hmix2
            have Xhts := Lib.hid hts
            clear hK hsb hO hps hpt hmix2 hts
            go_wp2_with fail
            go_roundw
            case rel => exact ⟨k + 1, ps, vs, by omega, by go_num, XhK.out, Xhsb.out, XhO.out, by rw [Xhmix2.out, List.append_nil, List.append_nil]; exact Xhps.out, by omega, Xhpt.out⟩
            case measure => simp [intOf]; omega
          · obtain ⟨bo, oo, rfl, hbo, hco⟩ := Xhelo.out k _ hB
            have q0 := hK.cell (Xk3.out.cell (Xkw2.out.cell hco hbo) trivial) ⟨show bo < W3.heap.size by omega, show bo ≠ W2.heap.size + 1 by omega⟩
            simp only [Nat.mul_one] at q0
            have hlto : (k : Int) < out.length := by have := (List.getElem?_eq_some_iff.1 hB).1; omega
            have hbow : bo < wr.heap.size := by omega
            have hkn : (L.kind != 1) = false := by simp [hB1]
            have hmix2 : mixTo r.body more out (k + 1) = (mixTo r.body more out k ++ []) ++ [L] := by rw [hmix]; simp [hB, hB1]
            clear hmix hB hL hLd hco hB1
            have s0 := cells_of_block hsb 2 _ rfl
            have sf := box_free hsb 2
            simp only [Nat.zero_add] at s0
            have hgbr : gb < wr.heap.size := by omega
            have XhK := Lib.hid hK
            have Xhsb := Lib.hid hsb
            have XhO := Lib.hid hO
            have Xhps := Lib.hid hps
            have Xhpt := Lib.hid hpt
            have Xhmix2 := Lib.hid hmix2
            have Xhts := Lib.hid hts
            clear hK hsb hO hps hpt hmix2 hts
            go_wp2_with fail
            refine region_hoist rfl (fun W => W.cell? ⟨gb, k * 7, none⟩ = some (.int .i64 L.kind) ∧ W.cell? ⟨gb, k * 7 + 1, none⟩ = some (.string L.atom.pred) ∧ W.cell? ⟨gb, k * 7 + 2, none⟩ = some (.slice aa L.atom.args.length caps) ∧ W.cell? ⟨gb, k * 7 + 3, none⟩ = some (.bool L.left.var) ∧ W.cell? ⟨gb, k * 7 + 4, none⟩ = some (.string L.left.text) ∧ W.cell? ⟨gb, k * 7 + 5, none⟩ = some (.bool L.right.var) ∧ W.cell? ⟨gb, k * 7 + 6, none⟩ = some (.string L.right.text) ∧ W.cell? ⟨W2.heap.size + 1, 2, none⟩ = some vs ∧ W.cell? ⟨W2.heap.size, 2, none⟩ = some (.slice (some ⟨gb, 0, none⟩) r.body.length capb)) [9, 10] ?_
            have hS0 := And.intro d0 (And.intro d1 (And.intro d2 (And.intro d3 (And.intro d4 (And.intro d5 (And.intro d6 (And.intro s0 (f0))))))))
            have XhS0 := Lib.hid hS0
            clear hS0
            refine hoist_take (i := 0) (v := ?_) rfl (by kernel_rfl) (by kernel_rfl) (by kernel_rfl) (by kernel_rfl) (fun _ _ _ h => h) XhS0.out (Or.inl ⟨by rfl, ?_⟩) ?_
            rotate_left
            · intro Wq hWq
              obtain ⟨x0, x1, x2, x3, x4, x5, x6, x7, x8⟩ := hWq
              go_simp
              try with_reducible rfl
            try simp only [Act.put, List.setIfInBounds_toArray, List.set_cons_zero, List.set_cons_succ]
            refine hoist_take (i := 1) (v := ?_) rfl (by kernel_rfl) (by kernel_rfl) (by kernel_rfl) (by kernel_rfl) (fun _ _ _ h => h) XhS0.out (Or.inl ⟨by rfl, ?_⟩) ?_
            rotate_left
            · intro Wq hWq
              obtain ⟨x0, x1, x2, x3, x4, x5, x6, x7, x8⟩ := hWq
              go_simp
              try with_reducible rfl
            try simp only [Act.put, List.setIfInBounds_toArray, List.set_cons_zero, List.set_cons_succ]
            refine hoist_take (i := 2) (v := ?_) rfl (by kernel_rfl) (by kernel_rfl) (by kernel_rfl) (by kernel_rfl) (fun _ _ _ h => h) XhS0.out (Or.inl ⟨by rfl, ?_⟩) ?_
            rotate_left
            · intro Wq hWq
              obtain ⟨x0, x1, x2, x3, x4, x5, x6, x7, x8⟩ := hWq
              go_simp
              try with_reducible rfl
            try simp only [Act.put, List.setIfInBounds_toArray, List.set_cons_zero, List.set_cons_succ]
            refine hoist_take (i := 3) (v := ?_) rfl (by kernel_rfl) (by kernel_rfl) (by kernel_rfl) (by kernel_rfl) (fun _ _ _ h => h) XhS0.out (Or.inl ⟨by rfl, ?_⟩) ?_
            rotate_left
            · intro Wq hWq
              obtain ⟨x0, x1, x2, x3, x4, x5, x6, x7, x8⟩ := hWq
              go_simp
              try with_reducible rfl
            try simp only [Act.put, List.setIfInBounds_toArray, List.set_cons_zero, List.set_cons_succ]
            refine hoist_take (i := 4) (v := ?_) rfl (by kernel_rfl) (by kernel_rfl) (by kernel_rfl) (by kernel_rfl) (fun _ _ _ h => h) XhS0.out (Or.inl ⟨by rfl, ?_⟩) ?_
            rotate_left
            · intro Wq hWq
              obtain ⟨x0, x1, x2, x3, x4, x5, x6, x7, x8⟩ := hWq
              go_simp
              try with_reducible rfl
            try simp only [Act.put, List.setIfInBounds_toArray, List.set_cons_zero, List.set_cons_succ]
            refine hoist_take (i := 5) (v := ?_) rfl (by kernel_rfl) (by kernel_rfl) (by kernel_rfl) (by kernel_rfl) (fun _ _ _ h => h) XhS0.out (Or.inl ⟨by rfl, ?_⟩) ?_
            rotate_left
            · intro Wq hWq
              obtain ⟨x0, x1, x2, x3, x4, x5, x6, x7, x8⟩ := hWq
              go_simp
              try with_reducible rfl
            try simp only [Act.put, List.setIfInBounds_toArray, List.set_cons_zero, List.set_cons_succ]
            refine hoist_take (i := 6) (v := ?_) rfl (by kernel_rfl) (by kernel_rfl) (by kernel_rfl) (by kernel_rfl) (fun _ _ _ h => h) XhS0.out (Or.inl ⟨by rfl, ?_⟩) ?_
            rotate_left
            · intro Wq hWq
              obtain ⟨x0, x1, x2, x3, x4, x5, x6, x7, x8⟩ := hWq
              go_simp
              try with_reducible rfl
            try simp only [Act.put, List.setIfInBounds_toArray, List.set_cons_zero, List.set_cons_succ]
            refine hoist_one (i := 7) rfl (by kernel_rfl) (fun K hK => ?_)
            have XhK0 := Lib.hid hK
            clear hK
            go_wp2_with fail
            refine XhK0.out _ _ (fun _ => ?_) ?_
            · obtain ⟨x0, x1, x2, x3, x4, x5, x6, x7, x8⟩ := XhS0.out
              exact ⟨old_cell x0 _, old_cell x1 _, old_cell x2 _, old_cell x3 _, old_cell x4 _, old_cell x5 _, old_cell x6 _, old_cell x7 _, old_cell x8 _⟩
            refine hoist_one (i := 8) rfl (by kernel_rfl) (fun K hK => ?_)
            have XhK1 := Lib.hid hK
            clear hK
            refine list_app1 (v := vs) el_lits rfl _ _ rfl rfl rfl (own_kept XhO.out (show Keep (fun _ => True) wr _ from by first | exact (Keep.drew _ _).trans (Keep.alloc _ _ _) | exact (Keep.alloc _ _ _).trans (Keep.drew _ _)) (fun _ _ => trivial)) (litCells L (.slice aa L.atom.args.length caps)) rfl (fun j u hj => by have := cells_of_block (new_block wr (.cells (litCells L (.slice aa L.atom.args.length caps)).toArray 37)) j u (by simpa using hj); rw [Nat.zero_add] at this; exact this) (by simp [litCells, Value.oneCell']) (by omega) (by simp; omega) ?_
            intro g2 cap2 w2 ho2 hk2 hg2 hl2
            have nob : ∀ b, b < W3.heap.size → some b ≠ Value.ownBlock vs := fun b hb => own_not XhO.out hb
            have y := hk2.heap (old_block Xhsb.out _) (nob _ (by omega))
            have y2 := cells_of_block y 2 _ rfl
            have yf := box_free y 2
            simp only [Nat.zero_add] at y2
            have kk2 : Keep (fun b => b < W3.heap.size) wr w2 := (show Keep (fun b => b < W3.heap.size) wr _ from by first | exact (Keep.drew _ _).trans (Keep.alloc _ _ _) | exact (Keep.alloc _ _ _).trans (Keep.drew _ _)).trans (hk2.mono fun b _ h => nob b h)
            have Xy := Lib.hid y
            have Xho2 := Lib.hid ho2
            have Xhk2 := Lib.hid hk2
            have Xhg2 := Lib.hid hg2
            have Xnob := Lib.hid nob
            have Xkk2 := Lib.hid kk2
            clear y ho2 hk2 hg2 nob kk2
            clear d0 d1 d2 d3 d4 d5 d6 s0 f0
            go_wp2_with fail
            refine XhK1.out _ _ (fun _ => ?_) ?_
            · obtain ⟨x0, x1, x2, x3, x4, x5, x6, x7, x8⟩ := XhS0.out
              exact ⟨Xkk2.out.cell x0 (show gb < W3.heap.size by omega), Xkk2.out.cell x1 (show gb < W3.heap.size by omega), Xkk2.out.cell x2 (show gb < W3.heap.size by omega), Xkk2.out.cell x3 (show gb < W3.heap.size by omega), Xkk2.out.cell x4 (show gb < W3.heap.size by omega), Xkk2.out.cell x5 (show gb < W3.heap.size by omega), Xkk2.out.cell x6 (show gb < W3.heap.size by omega), Xkk2.out.cell x7 (show W2.heap.size + 1 < W3.heap.size by omega), Xkk2.out.cell x8 (show W2.heap.size < W3.heap.size by omega)⟩
            refine hoist_one (i := 9) rfl (by kernel_rfl) (fun K hK => ?_)
            have XhK2 := Lib.hid hK
            clear hK
            go_wp2_with fail
            refine XhK2.out _ _ (fun h => by simp at h) ?_
            refine hoist_one (i := 10) rfl (by kernel_rfl) (fun K hK => ?_)
            have XhK3 := Lib.hid hK
            clear hK
            go_wp2_with fail
            refine XhK3.out _ _ (fun h => by simp at h) ?_
            refine hoist_done (by kernel_rfl) ?_
            have kq : ∀ u, Keep (fun b => b ≠ W2.heap.size + 1) w2 (w2.setCell ⟨W2.heap.size + 1, 2, none⟩ u) := fun u => Keep.setCell _ _ _ (by simp)
            refine post_abs (fun W => ∃ (qs : List (LitD × Value)) (us : Value), Keep (fun j => j < W3.heap.size ∧ j ≠ W2.heap.size + 1) W3 W ∧ W.heap[W2.heap.size + 1]? = some (.cells #[.string r.head.pred, .slice (some ⟨gh, 0, none⟩) r.head.args.length caph, us] 27 (0, 0)) ∧ W.ownsRow W3.heap.size 37 7 us qs.length (qs.flatMap fun p => litCells p.1 p.2) ∧ Keep (fun j => j < W3.heap.size ∧ j ≠ W2.heap.size + 1) wr W ∧ qs.map (·.1) = mixTo r.body more out (k + 1) ∧ qs.length ≤ 2 * (k + 1) ∧ ∀ p, p ∈ qs → TermsIn W2.heap.size W3 p.2 p.1.atom.args) ⟨ps ++ [(L, Value.slice aa L.atom.args.length caps)], _, ?_, set_at 2 _ Xy.out, own_kept (by simpa using Xho2.out) (kq _) (fun b hb => ?_), ?_, ?_, ?_, ?_⟩ ?_
            · exact XhK.out.trans ((Xkk2.out.mono fun b _ h => h.1).trans ((kq _).mono fun b _ h => h.2))
            · have := (own_cap Xho2.out).2.2.2
              simp only [Value.ownBlock, Option.some.injEq] at hb
              omega
            · exact (Xkk2.out.mono fun b _ h => h.1).trans ((kq _).mono fun b _ h => h.2)
            · rw [List.map_append, Xhps.out, Xhmix2.out, List.append_nil]; rfl
            · simp; omega
            · intro p hp
              rcases List.mem_append.1 hp with h | h
              · exact Xhpt.out p h
              · simp only [List.mem_singleton] at h; subst h; exact Xhts.out
            clear XhS0 XhK0 XhK1 XhK2 XhK3 Xy Xho2 Xhk2 Xhg2 Xnob Xkk2 kq
            rintro W5 ⟨ps5, vs5, K5, sb5, O5, kk5, hps5, hpl5, hpt5⟩
            have hws5 := K5.size
            have XK5 := Lib.hid K5
            have Xsb5 := Lib.hid sb5
            have XO5 := Lib.hid O5
            have Xkk5 := Lib.hid kk5
            have Xhps5 := Lib.hid hps5
            have Xhpt5 := Lib.hid hpt5
            clear K5 sb5 O5 kk5 hps5 hpt5
            go_wp2_with fail
            go_roundw
            case rel => exact ⟨k + 1, ps5, vs5, by omega, by go_num, XK5.out, Xsb5.out, XO5.out, Xhps5.out, hpl5, Xhpt5.out⟩
            case measure => simp [intOf]; omega
        · obtain ⟨bm, om, rfl, hbm, sm, hclm, htsm⟩ := (show ∃ b off, am = some ⟨b, off, none⟩ ∧ b < w.heap.size ∧ LitE w.heap.size W3 b (off + k * 7) M from by
            obtain ⟨a, c, hv, _, _, he⟩ := XhLm.out
            cases hv
            exact he k M hM)
          have gm : ∀ j v, (litCells M sm)[j]? = some v → wr.cell? ⟨bm, om + k * 7 + j, none⟩ = some v := fun j v h => hK.cell (hclm j v h) ⟨show bm < W3.heap.size by omega, show bm ≠ W2.heap.size + 1 by omega⟩
          obtain ⟨xm, capm2, rfl, hlenm2, hcapm2, helm2⟩ := id htsm
          have m0 := gm 0 _ rfl
          have m1 := gm 1 _ rfl
          have m2 := gm 2 _ rfl
          have m3 := gm 3 _ rfl
          have m4 := gm 4 _ rfl
          have m5 := gm 5 _ rfl
          have m6 := gm 6 _ rfl
          simp only [Nat.add_zero] at m0
          have hltm : (k : Int) < more.length := by have := (List.getElem?_eq_some_iff.1 hM).1; omega
          have hbmw : bm < wr.heap.size := by omega
          have hmk : (M.kind == 1) = false := by simp [hM1]
          have htsm2 : TermsIn W2.heap.size W3 (.slice xm M.atom.args.length capm2) M.atom.args := terms_wider htsm (by omega)
          have hmix : mixTo r.body more out (k + 1) = (mixTo r.body more out k ++ []) ++ (if (out[k]?.getD false && L.kind != 1) = true then [] else [L]) := by rw [mixTo, hLd, mixAt, hM]; simp [hM1]
          clear gm hclm htsm helm2 hM hM1
          rcases hB with hB | hB | ⟨hB, hB1⟩ | ⟨hB, hB1⟩
          · have hlto : ¬ (k : Int) < out.length := by omega
            have hmix2 : mixTo r.body more out (k + 1) = (mixTo r.body more out k ++ []) ++ [L] := by
              have : out[k]? = none := List.getElem?_eq_none (by omega)
              rw [hmix]; simp [this]
            clear hmix hB hL hLd
            have s0 := cells_of_block hsb 2 _ rfl
            have sf := box_free hsb 2
            simp only [Nat.zero_add] at s0
            have hgbr : gb < wr.heap.size := by omega
            have XhK := Lib.hid hK
            have Xhsb := Lib.hid hsb
            have XhO := Lib.hid hO
            have Xhps := Lib.hid hps
            have Xhpt := Lib.hid hpt
            have Xhmix2 := Lib.hid hmix2
            have Xhts := Lib.hid hts
            have Xhtsm2 := Lib.hid htsm2
            clear hK hsb hO hps hpt hmix2 hts htsm2
            go_wp2_with fail
            refine region_hoist rfl (fun W => W.cell? ⟨gb, k * 7, none⟩ = some (.int .i64 L.kind) ∧ W.cell? ⟨gb, k * 7 + 1, none⟩ = some (.string L.atom.pred) ∧ W.cell? ⟨gb, k * 7 + 2, none⟩ = some (.slice aa L.atom.args.length caps) ∧ W.cell? ⟨gb, k * 7 + 3, none⟩ = some (.bool L.left.var) ∧ W.cell? ⟨gb, k * 7 + 4, none⟩ = some (.string L.left.text) ∧ W.cell? ⟨gb, k * 7 + 5, none⟩ = some (.bool L.right.var) ∧ W.cell? ⟨gb, k * 7 + 6, none⟩ = some (.string L.right.text) ∧ W.cell? ⟨W2.heap.size + 1, 2, none⟩ = some vs ∧ W.cell? ⟨W2.heap.size, 2, none⟩ = some (.slice (some ⟨gb, 0, none⟩) r.body.length capb)) [9, 10] ?_
            have hS0 := And.intro d0 (And.intro d1 (And.intro d2 (And.intro d3 (And.intro d4 (And.intro d5 (And.intro d6 (And.intro s0 (f0))))))))
            have XhS0 := Lib.hid hS0
            clear hS0
            refine hoist_take (i := 0) (v := ?_) rfl (by kernel_rfl) (by kernel_rfl) (by kernel_rfl) (by kernel_rfl) (fun _ _ _ h => h) XhS0.out (Or.inl ⟨by rfl, ?_⟩) ?_
            rotate_left
            · intro Wq hWq
              obtain ⟨x0, x1, x2, x3, x4, x5, x6, x7, x8⟩ := hWq
              go_simp
              try with_reducible rfl
            try simp only [Act.put, List.setIfInBounds_toArray, List.set_cons_zero, List.set_cons_succ]
            refine hoist_take (i := 1) (v := ?_) rfl (by kernel_rfl) (by kernel_rfl) (by kernel_rfl) (by kernel_rfl) (fun _ _ _ h => h) XhS0.out (Or.inl ⟨by rfl, ?_⟩) ?_
            rotate_left
            · intro Wq hWq
              obtain ⟨x0, x1, x2, x3, x4, x5, x6, x7, x8⟩ := hWq
              go_simp
              try with_reducible rfl
            try simp only [Act.put, List.setIfInBounds_toArray, List.set_cons_zero, List.set_cons_succ]
            refine hoist_take (i := 2) (v := ?_) rfl (by kernel_rfl) (by kernel_rfl) (by kernel_rfl) (by kernel_rfl) (fun _ _ _ h => h) XhS0.out (Or.inl ⟨by rfl, ?_⟩) ?_
            rotate_left
            · intro Wq hWq
              obtain ⟨x0, x1, x2, x3, x4, x5, x6, x7, x8⟩ := hWq
              go_simp
              try with_reducible rfl
            try simp only [Act.put, List.setIfInBounds_toArray, List.set_cons_zero, List.set_cons_succ]
            refine hoist_take (i := 3) (v := ?_) rfl (by kernel_rfl) (by kernel_rfl) (by kernel_rfl) (by kernel_rfl) (fun _ _ _ h => h) XhS0.out (Or.inl ⟨by rfl, ?_⟩) ?_
            rotate_left
            · intro Wq hWq
              obtain ⟨x0, x1, x2, x3, x4, x5, x6, x7, x8⟩ := hWq
              go_simp
              try with_reducible rfl
            try simp only [Act.put, List.setIfInBounds_toArray, List.set_cons_zero, List.set_cons_succ]
            refine hoist_take (i := 4) (v := ?_) rfl (by kernel_rfl) (by kernel_rfl) (by kernel_rfl) (by kernel_rfl) (fun _ _ _ h => h) XhS0.out (Or.inl ⟨by rfl, ?_⟩) ?_
            rotate_left
            · intro Wq hWq
              obtain ⟨x0, x1, x2, x3, x4, x5, x6, x7, x8⟩ := hWq
              go_simp
              try with_reducible rfl
            try simp only [Act.put, List.setIfInBounds_toArray, List.set_cons_zero, List.set_cons_succ]
            refine hoist_take (i := 5) (v := ?_) rfl (by kernel_rfl) (by kernel_rfl) (by kernel_rfl) (by kernel_rfl) (fun _ _ _ h => h) XhS0.out (Or.inl ⟨by rfl, ?_⟩) ?_
            rotate_left
            · intro Wq hWq
              obtain ⟨x0, x1, x2, x3, x4, x5, x6, x7, x8⟩ := hWq
              go_simp
              try with_reducible rfl
            try simp only [Act.put, List.setIfInBounds_toArray, List.set_cons_zero, List.set_cons_succ]
            refine hoist_take (i := 6) (v := ?_) rfl (by kernel_rfl) (by kernel_rfl) (by kernel_rfl) (by kernel_rfl) (fun _ _ _ h => h) XhS0.out (Or.inl ⟨by rfl, ?_⟩) ?_
            rotate_left
            · intro Wq hWq
              obtain ⟨x0, x1, x2, x3, x4, x5, x6, x7, x8⟩ := hWq
              go_simp
              try with_reducible rfl
            try simp only [Act.put, List.setIfInBounds_toArray, List.set_cons_zero, List.set_cons_succ]
            refine hoist_one (i := 7) rfl (by kernel_rfl) (fun K hK => ?_)
            have XhK0 := Lib.hid hK
            clear hK
            go_wp2_with fail
            refine XhK0.out _ _ (fun _ => ?_) ?_
            · obtain ⟨x0, x1, x2, x3, x4, x5, x6, x7, x8⟩ := XhS0.out
              exact ⟨old_cell x0 _, old_cell x1 _, old_cell x2 _, old_cell x3 _, old_cell x4 _, old_cell x5 _, old_cell x6 _, old_cell x7 _, old_cell x8 _⟩
            refine hoist_one (i := 8) rfl (by kernel_rfl) (fun K hK => ?_)
            have XhK1 := Lib.hid hK
            clear hK
            refine list_app1 (v := vs) el_lits rfl _ _ rfl rfl rfl (own_kept XhO.out (show Keep (fun _ => True) wr _ from by first | exact (Keep.drew _ _).trans (Keep.alloc _ _ _) | exact (Keep.alloc _ _ _).trans (Keep.drew _ _)) (fun _ _ => trivial)) (litCells L (.slice aa L.atom.args.length caps)) rfl (fun j u hj => by have := cells_of_block (new_block wr (.cells (litCells L (.slice aa L.atom.args.length caps)).toArray 37)) j u (by simpa using hj); rw [Nat.zero_add] at this; exact this) (by simp [litCells, Value.oneCell']) (by omega) (by simp; omega) ?_
            intro g2 cap2 w2 ho2 hk2 hg2 hl2
            have nob : ∀ b, b < W3.heap.size → some b ≠ Value.ownBlock vs := fun b hb => own_not XhO.out hb
            have y := hk2.heap (old_block Xhsb.out _) (nob _ (by omega))
            have y2 := cells_of_block y 2 _ rfl
            have yf := box_free y 2
            simp only [Nat.zero_add] at y2
            have kk2 : Keep (fun b => b < W3.heap.size) wr w2 := (show Keep (fun b => b < W3.heap.size) wr _ from by first | exact (Keep.drew _ _).trans (Keep.alloc _ _ _) | exact (Keep.alloc _ _ _).trans (Keep.drew _ _)).trans (hk2.mono fun b _ h => nob b h)
            have Xy := Lib.hid y
            have Xho2 := Lib.hid ho2
            have Xhk2 := Lib.hid hk2
            have Xhg2 := Lib.hid hg2
            have Xnob := Lib.hid nob
            have Xkk2 := Lib.hid kk2
            clear y ho2 hk2 hg2 nob kk2
            clear d0 d1 d2 d3 d4 d5 d6 s0 f0
            go_wp2_with fail
            refine XhK1.out _ _ (fun _ => ?_) ?_
            · obtain ⟨x0, x1, x2, x3, x4, x5, x6, x7, x8⟩ := XhS0.out
              exact ⟨Xkk2.out.cell x0 (show gb < W3.heap.size by omega), Xkk2.out.cell x1 (show gb < W3.heap.size by omega), Xkk2.out.cell x2 (show gb < W3.heap.size by omega), Xkk2.out.cell x3 (show gb < W3.heap.size by omega), Xkk2.out.cell x4 (show gb < W3.heap.size by omega), Xkk2.out.cell x5 (show gb < W3.heap.size by omega), Xkk2.out.cell x6 (show gb < W3.heap.size by omega), Xkk2.out.cell x7 (show W2.heap.size + 1 < W3.heap.size by omega), Xkk2.out.cell x8 (show W2.heap.size < W3.heap.size by omega)⟩
            refine hoist_one (i := 9) rfl (by kernel_rfl) (fun K hK => ?_)
            have XhK2 := Lib.hid hK
            clear hK
            go_wp2_with fail
            refine XhK2.out _ _ (fun h => by simp at h) ?_
            refine hoist_one (i := 10) rfl (by kernel_rfl) (fun K hK => ?_)
            have XhK3 := Lib.hid hK
            clear hK
            go_wp2_with fail
            refine XhK3.out _ _ (fun h => by simp at h) ?_
            refine hoist_done (by kernel_rfl) ?_
            have kq : ∀ u, Keep (fun b => b ≠ W2.heap.size + 1) w2 (w2.setCell ⟨W2.heap.size + 1, 2, none⟩ u) := fun u => Keep.setCell _ _ _ (by simp)
            refine post_abs (fun W => ∃ (qs : List (LitD × Value)) (us : Value), Keep (fun j => j < W3.heap.size ∧ j ≠ W2.heap.size + 1) W3 W ∧ W.heap[W2.heap.size + 1]? = some (.cells #[.string r.head.pred, .slice (some ⟨gh, 0, none⟩) r.head.args.length caph, us] 27 (0, 0)) ∧ W.ownsRow W3.heap.size 37 7 us qs.length (qs.flatMap fun p => litCells p.1 p.2) ∧ Keep (fun j => j < W3.heap.size ∧ j ≠ W2.heap.size + 1) wr W ∧ qs.map (·.1) = mixTo r.body more out (k + 1) ∧ qs.length ≤ 2 * (k + 1) ∧ ∀ p, p ∈ qs → TermsIn W2.heap.size W3 p.2 p.1.atom.args) ⟨ps ++ [(L, Value.slice aa L.atom.args.length caps)], _, ?_, set_at 2 _ Xy.out, own_kept (by simpa using Xho2.out) (kq _) (fun b hb => ?_), ?_, ?_, ?_, ?_⟩ ?_
            · exact XhK.out.trans ((Xkk2.out.mono fun b _ h => h.1).trans ((kq _).mono fun b _ h => h.2))
            · have := (own_cap Xho2.out).2.2.2
              simp only [Value.ownBlock, Option.some.injEq] at hb
              omega
            · exact (Xkk2.out.mono fun b _ h => h.1).trans ((kq _).mono fun b _ h => h.2)
            · rw [List.map_append, Xhps.out, Xhmix2.out, List.append_nil]; rfl
            · simp; omega
            · intro p hp
              rcases List.mem_append.1 hp with h | h
              · exact Xhpt.out p h
              · simp only [List.mem_singleton] at h; subst h; exact Xhts.out
            clear XhS0 XhK0 XhK1 XhK2 XhK3 Xy Xho2 Xhk2 Xhg2 Xnob Xkk2 kq
            rintro W5 ⟨ps5, vs5, K5, sb5, O5, kk5, hps5, hpl5, hpt5⟩
            have hws5 := K5.size
            have XK5 := Lib.hid K5
            have Xsb5 := Lib.hid sb5
            have XO5 := Lib.hid O5
            have Xkk5 := Lib.hid kk5
            have Xhps5 := Lib.hid hps5
            have Xhpt5 := Lib.hid hpt5
            clear K5 sb5 O5 kk5 hps5 hpt5
            go_wp2_with fail
            go_roundw
            case rel => exact ⟨k + 1, ps5, vs5, by omega, by go_num, XK5.out, Xsb5.out, XO5.out, Xhps5.out, hpl5, Xhpt5.out⟩
            case measure => simp [intOf]; omega
          · obtain ⟨bo, oo, rfl, hbo, hco⟩ := Xhelo.out k _ hB
            have q0 := hK.cell (Xk3.out.cell (Xkw2.out.cell hco hbo) trivial) ⟨show bo < W3.heap.size by omega, show bo ≠ W2.heap.size + 1 by omega⟩
            simp only [Nat.mul_one] at q0
            have hlto : (k : Int) < out.length := by have := (List.getElem?_eq_some_iff.1 hB).1; omega
            have hbow : bo < wr.heap.size := by omega
            have hmix2 : mixTo r.body more out (k + 1) = (mixTo r.body more out k ++ []) ++ [L] := by rw [hmix]; simp [hB]
            clear hmix hB hL hLd hco
            have s0 := cells_of_block hsb 2 _ rfl
            have sf := box_free hsb 2
            simp only [Nat.zero_add] at s0
            have hgbr : gb < wr.heap.size := by omega
            have XhK := Lib.hid hK
            have Xhsb := Lib.hid hsb
            have XhO := Lib.hid hO
            have Xhps := Lib.hid hps
            have Xhpt := Lib.hid hpt
            have Xhmix2 := Lib.hid hmix2
            have Xhts := Lib.hid hts
            have Xhtsm2 := Lib.hid htsm2
            clear hK hsb hO hps hpt hmix2 hts htsm2
            go_wp2_with fail
            refine region_hoist rfl (fun W => W.cell? ⟨gb, k * 7, none⟩ = some (.int .i64 L.kind) ∧ W.cell? ⟨gb, k * 7 + 1, none⟩ = some (.string L.atom.pred) ∧ W.cell? ⟨gb, k * 7 + 2, none⟩ = some (.slice aa L.atom.args.length caps) ∧ W.cell? ⟨gb, k * 7 + 3, none⟩ = some (.bool L.left.var) ∧ W.cell? ⟨gb, k * 7 + 4, none⟩ = some (.string L.left.text) ∧ W.cell? ⟨gb, k * 7 + 5, none⟩ = some (.bool L.right.var) ∧ W.cell? ⟨gb, k * 7 + 6, none⟩ = some (.string L.right.text) ∧ W.cell? ⟨W2.heap.size + 1, 2, none⟩ = some vs ∧ W.cell? ⟨W2.heap.size, 2, none⟩ = some (.slice (some ⟨gb, 0, none⟩) r.body.length capb)) [9, 10] ?_
            have hS0 := And.intro d0 (And.intro d1 (And.intro d2 (And.intro d3 (And.intro d4 (And.intro d5 (And.intro d6 (And.intro s0 (f0))))))))
            have XhS0 := Lib.hid hS0
            clear hS0
            refine hoist_take (i := 0) (v := ?_) rfl (by kernel_rfl) (by kernel_rfl) (by kernel_rfl) (by kernel_rfl) (fun _ _ _ h => h) XhS0.out (Or.inl ⟨by rfl, ?_⟩) ?_
            rotate_left
            · intro Wq hWq
              obtain ⟨x0, x1, x2, x3, x4, x5, x6, x7, x8⟩ := hWq
              go_simp
              try with_reducible rfl
            try simp only [Act.put, List.setIfInBounds_toArray, List.set_cons_zero, List.set_cons_succ]
            refine hoist_take (i := 1) (v := ?_) rfl (by kernel_rfl) (by kernel_rfl) (by kernel_rfl) (by kernel_rfl) (fun _ _ _ h => h) XhS0.out (Or.inl ⟨by rfl, ?_⟩) ?_
            rotate_left
            · intro Wq hWq
              obtain ⟨x0, x1, x2, x3, x4, x5, x6, x7, x8⟩ := hWq
              go_simp
              try with_reducible rfl
            try simp only [Act.put, List.setIfInBounds_toArray, List.set_cons_zero, List.set_cons_succ]
            refine hoist_take (i := 2) (v := ?_) rfl (by kernel_rfl) (by kernel_rfl) (by kernel_rfl) (by kernel_rfl) (fun _ _ _ h => h) XhS0.out (Or.inl ⟨by rfl, ?_⟩) ?_
            rotate_left
            · intro Wq hWq
              obtain ⟨x0, x1, x2, x3, x4, x5, x6, x7, x8⟩ := hWq
              go_simp
              try with_reducible rfl
            try simp only [Act.put, List.setIfInBounds_toArray, List.set_cons_zero, List.set_cons_succ]
            refine hoist_take (i := 3) (v := ?_) rfl (by kernel_rfl) (by kernel_rfl) (by kernel_rfl) (by kernel_rfl) (fun _ _ _ h => h) XhS0.out (Or.inl ⟨by rfl, ?_⟩) ?_
            rotate_left
            · intro Wq hWq
              obtain ⟨x0, x1, x2, x3, x4, x5, x6, x7, x8⟩ := hWq
              go_simp
              try with_reducible rfl
            try simp only [Act.put, List.setIfInBounds_toArray, List.set_cons_zero, List.set_cons_succ]
            refine hoist_take (i := 4) (v := ?_) rfl (by kernel_rfl) (by kernel_rfl) (by kernel_rfl) (by kernel_rfl) (fun _ _ _ h => h) XhS0.out (Or.inl ⟨by rfl, ?_⟩) ?_
            rotate_left
            · intro Wq hWq
              obtain ⟨x0, x1, x2, x3, x4, x5, x6, x7, x8⟩ := hWq
              go_simp
              try with_reducible rfl
            try simp only [Act.put, List.setIfInBounds_toArray, List.set_cons_zero, List.set_cons_succ]
            refine hoist_take (i := 5) (v := ?_) rfl (by kernel_rfl) (by kernel_rfl) (by kernel_rfl) (by kernel_rfl) (fun _ _ _ h => h) XhS0.out (Or.inl ⟨by rfl, ?_⟩) ?_
            rotate_left
            · intro Wq hWq
              obtain ⟨x0, x1, x2, x3, x4, x5, x6, x7, x8⟩ := hWq
              go_simp
              try with_reducible rfl
            try simp only [Act.put, List.setIfInBounds_toArray, List.set_cons_zero, List.set_cons_succ]
            refine hoist_take (i := 6) (v := ?_) rfl (by kernel_rfl) (by kernel_rfl) (by kernel_rfl) (by kernel_rfl) (fun _ _ _ h => h) XhS0.out (Or.inl ⟨by rfl, ?_⟩) ?_
            rotate_left
            · intro Wq hWq
              obtain ⟨x0, x1, x2, x3, x4, x5, x6, x7, x8⟩ := hWq
              go_simp
              try with_reducible rfl
            try simp only [Act.put, List.setIfInBounds_toArray, List.set_cons_zero, List.set_cons_succ]
            refine hoist_one (i := 7) rfl (by kernel_rfl) (fun K hK => ?_)
            have XhK0 := Lib.hid hK
            clear hK
            go_wp2_with fail
            refine XhK0.out _ _ (fun _ => ?_) ?_
            · obtain ⟨x0, x1, x2, x3, x4, x5, x6, x7, x8⟩ := XhS0.out
              exact ⟨old_cell x0 _, old_cell x1 _, old_cell x2 _, old_cell x3 _, old_cell x4 _, old_cell x5 _, old_cell x6 _, old_cell x7 _, old_cell x8 _⟩
            refine hoist_one (i := 8) rfl (by kernel_rfl) (fun K hK => ?_)
            have XhK1 := Lib.hid hK
            clear hK
            refine list_app1 (v := vs) el_lits rfl _ _ rfl rfl rfl (own_kept XhO.out (show Keep (fun _ => True) wr _ from by first | exact (Keep.drew _ _).trans (Keep.alloc _ _ _) | exact (Keep.alloc _ _ _).trans (Keep.drew _ _)) (fun _ _ => trivial)) (litCells L (.slice aa L.atom.args.length caps)) rfl (fun j u hj => by have := cells_of_block (new_block wr (.cells (litCells L (.slice aa L.atom.args.length caps)).toArray 37)) j u (by simpa using hj); rw [Nat.zero_add] at this; exact this) (by simp [litCells, Value.oneCell']) (by omega) (by simp; omega) ?_
            intro g2 cap2 w2 ho2 hk2 hg2 hl2
            have nob : ∀ b, b < W3.heap.size → some b ≠ Value.ownBlock vs := fun b hb => own_not XhO.out hb
            have y := hk2.heap (old_block Xhsb.out _) (nob _ (by omega))
            have y2 := cells_of_block y 2 _ rfl
            have yf := box_free y 2
            simp only [Nat.zero_add] at y2
            have kk2 : Keep (fun b => b < W3.heap.size) wr w2 := (show Keep (fun b => b < W3.heap.size) wr _ from by first | exact (Keep.drew _ _).trans (Keep.alloc _ _ _) | exact (Keep.alloc _ _ _).trans (Keep.drew _ _)).trans (hk2.mono fun b _ h => nob b h)
            have Xy := Lib.hid y
            have Xho2 := Lib.hid ho2
            have Xhk2 := Lib.hid hk2
            have Xhg2 := Lib.hid hg2
            have Xnob := Lib.hid nob
            have Xkk2 := Lib.hid kk2
            clear y ho2 hk2 hg2 nob kk2
            clear d0 d1 d2 d3 d4 d5 d6 s0 f0
            go_wp2_with fail
            refine XhK1.out _ _ (fun _ => ?_) ?_
            · obtain ⟨x0, x1, x2, x3, x4, x5, x6, x7, x8⟩ := XhS0.out
              exact ⟨Xkk2.out.cell x0 (show gb < W3.heap.size by omega), Xkk2.out.cell x1 (show gb < W3.heap.size by omega), Xkk2.out.cell x2 (show gb < W3.heap.size by omega), Xkk2.out.cell x3 (show gb < W3.heap.size by omega), Xkk2.out.cell x4 (show gb < W3.heap.size by omega), Xkk2.out.cell x5 (show gb < W3.heap.size by omega), Xkk2.out.cell x6 (show gb < W3.heap.size by omega), Xkk2.out.cell x7 (show W2.heap.size + 1 < W3.heap.size by omega), Xkk2.out.cell x8 (show W2.heap.size < W3.heap.size by omega)⟩
            refine hoist_one (i := 9) rfl (by kernel_rfl) (fun K hK => ?_)
            have XhK2 := Lib.hid hK
            clear hK
            go_wp2_with fail
            refine XhK2.out _ _ (fun h => by simp at h) ?_
            refine hoist_one (i := 10) rfl (by kernel_rfl) (fun K hK => ?_)
            have XhK3 := Lib.hid hK
            clear hK
            go_wp2_with fail
            refine XhK3.out _ _ (fun h => by simp at h) ?_
            refine hoist_done (by kernel_rfl) ?_
            have kq : ∀ u, Keep (fun b => b ≠ W2.heap.size + 1) w2 (w2.setCell ⟨W2.heap.size + 1, 2, none⟩ u) := fun u => Keep.setCell _ _ _ (by simp)
            refine post_abs (fun W => ∃ (qs : List (LitD × Value)) (us : Value), Keep (fun j => j < W3.heap.size ∧ j ≠ W2.heap.size + 1) W3 W ∧ W.heap[W2.heap.size + 1]? = some (.cells #[.string r.head.pred, .slice (some ⟨gh, 0, none⟩) r.head.args.length caph, us] 27 (0, 0)) ∧ W.ownsRow W3.heap.size 37 7 us qs.length (qs.flatMap fun p => litCells p.1 p.2) ∧ Keep (fun j => j < W3.heap.size ∧ j ≠ W2.heap.size + 1) wr W ∧ qs.map (·.1) = mixTo r.body more out (k + 1) ∧ qs.length ≤ 2 * (k + 1) ∧ ∀ p, p ∈ qs → TermsIn W2.heap.size W3 p.2 p.1.atom.args) ⟨ps ++ [(L, Value.slice aa L.atom.args.length caps)], _, ?_, set_at 2 _ Xy.out, own_kept (by simpa using Xho2.out) (kq _) (fun b hb => ?_), ?_, ?_, ?_, ?_⟩ ?_
            · exact XhK.out.trans ((Xkk2.out.mono fun b _ h => h.1).trans ((kq _).mono fun b _ h => h.2))
            · have := (own_cap Xho2.out).2.2.2
              simp only [Value.ownBlock, Option.some.injEq] at hb
              omega
            · exact (Xkk2.out.mono fun b _ h => h.1).trans ((kq _).mono fun b _ h => h.2)
            · rw [List.map_append, Xhps.out, Xhmix2.out, List.append_nil]; rfl
            · simp; omega
            · intro p hp
              rcases List.mem_append.1 hp with h | h
              · exact Xhpt.out p h
              · simp only [List.mem_singleton] at h; subst h; exact Xhts.out
            clear XhS0 XhK0 XhK1 XhK2 XhK3 Xy Xho2 Xhk2 Xhg2 Xnob Xkk2 kq
            rintro W5 ⟨ps5, vs5, K5, sb5, O5, kk5, hps5, hpl5, hpt5⟩
            have hws5 := K5.size
            have XK5 := Lib.hid K5
            have Xsb5 := Lib.hid sb5
            have XO5 := Lib.hid O5
            have Xkk5 := Lib.hid kk5
            have Xhps5 := Lib.hid hps5
            have Xhpt5 := Lib.hid hpt5
            clear K5 sb5 O5 kk5 hps5 hpt5
            go_wp2_with fail
            go_roundw
            case rel => exact ⟨k + 1, ps5, vs5, by omega, by go_num, XK5.out, Xsb5.out, XO5.out, Xhps5.out, hpl5, Xhpt5.out⟩
            case measure => simp [intOf]; omega
          · obtain ⟨bo, oo, rfl, hbo, hco⟩ := Xhelo.out k _ hB
            have q0 := hK.cell (Xk3.out.cell (Xkw2.out.cell hco hbo) trivial) ⟨show bo < W3.heap.size by omega, show bo ≠ W2.heap.size + 1 by omega⟩
            simp only [Nat.mul_one] at q0
            have hlto : (k : Int) < out.length := by have := (List.getElem?_eq_some_iff.1 hB).1; omega
            have hbow : bo < wr.heap.size := by omega
            have hkn : (L.kind != 1) = true := by simp [hB1]
            have hmix2 : mixTo r.body more out (k + 1) = (mixTo r.body more out k ++ []) ++ [] := by rw [hmix]; simp [hB, hB1]
            clear hmix hB hL hLd hco hB1
            have s0 := cells_of_block hsb 2 _ rfl
            have sf := box_free hsb 2
            simp only [Nat.zero_add] at s0
            have hgbr : gb < wr.heap.size := by omega
            have XhK := Lib.hid hK
            have Xhsb := Lib.hid hsb
            have XhO := Lib.hid hO
            have Xhps := Lib.hid hps
            have Xhpt := Lib.hid hpt
            have Xhmix2 := Lib.hid hmix2
            have Xhts := Lib.hid hts
            have Xhtsm2 := Lib.hid htsm2
            clear hK hsb hO hps hpt hmix2 hts htsm2
            go_wp2_with fail
            go_roundw
            case rel => exact ⟨k + 1, ps, vs, by omega, by go_num, XhK.out, Xhsb.out, XhO.out, by rw [Xhmix2.out, List.append_nil, List.append_nil]; exact Xhps.out, by omega, Xhpt.out⟩
            case measure => simp [intOf]; omega
          · obtain ⟨bo, oo, rfl, hbo, hco⟩ := Xhelo.out k _ hB
            have q0 := hK.cell (Xk3.out.cell (Xkw2.out.cell hco hbo) trivial) ⟨show bo < W3.heap.size by omega, show bo ≠ W2.heap.size + 1 by omega⟩
            simp only [Nat.mul_one] at q0
            have hlto : (k : Int) < out.length := by have := (List.getElem?_eq_some_iff.1 hB).1; omega
            have hbow : bo < wr.heap.size := by omega
            have hkn : (L.kind != 1) = false := by simp [hB1]
            have hmix2 : mixTo r.body more out (k + 1) = (mixTo r.body more out k ++ []) ++ [L] := by rw [hmix]; simp [hB, hB1]
            clear hmix hB hL hLd hco hB1
            have s0 := cells_of_block hsb 2 _ rfl
            have sf := box_free hsb 2
            simp only [Nat.zero_add] at s0
            have hgbr : gb < wr.heap.size := by omega
            have XhK := Lib.hid hK
            have Xhsb := Lib.hid hsb
            have XhO := Lib.hid hO
            have Xhps := Lib.hid hps
            have Xhpt := Lib.hid hpt
            have Xhmix2 := Lib.hid hmix2
            have Xhts := Lib.hid hts
            have Xhtsm2 := Lib.hid htsm2
            clear hK hsb hO hps hpt hmix2 hts htsm2
            go_wp2_with fail
            refine region_hoist rfl (fun W => W.cell? ⟨gb, k * 7, none⟩ = some (.int .i64 L.kind) ∧ W.cell? ⟨gb, k * 7 + 1, none⟩ = some (.string L.atom.pred) ∧ W.cell? ⟨gb, k * 7 + 2, none⟩ = some (.slice aa L.atom.args.length caps) ∧ W.cell? ⟨gb, k * 7 + 3, none⟩ = some (.bool L.left.var) ∧ W.cell? ⟨gb, k * 7 + 4, none⟩ = some (.string L.left.text) ∧ W.cell? ⟨gb, k * 7 + 5, none⟩ = some (.bool L.right.var) ∧ W.cell? ⟨gb, k * 7 + 6, none⟩ = some (.string L.right.text) ∧ W.cell? ⟨W2.heap.size + 1, 2, none⟩ = some vs ∧ W.cell? ⟨W2.heap.size, 2, none⟩ = some (.slice (some ⟨gb, 0, none⟩) r.body.length capb)) [9, 10] ?_
            have hS0 := And.intro d0 (And.intro d1 (And.intro d2 (And.intro d3 (And.intro d4 (And.intro d5 (And.intro d6 (And.intro s0 (f0))))))))
            have XhS0 := Lib.hid hS0
            clear hS0
            refine hoist_take (i := 0) (v := ?_) rfl (by kernel_rfl) (by kernel_rfl) (by kernel_rfl) (by kernel_rfl) (fun _ _ _ h => h) XhS0.out (Or.inl ⟨by rfl, ?_⟩) ?_
            rotate_left
            · intro Wq hWq
              obtain ⟨x0, x1, x2, x3, x4, x5, x6, x7, x8⟩ := hWq
              go_simp
              try with_reducible rfl
            try simp only [Act.put, List.setIfInBounds_toArray, List.set_cons_zero, List.set_cons_succ]
            refine hoist_take (i := 1) (v := ?_) rfl (by kernel_rfl) (by kernel_rfl) (by kernel_rfl) (by kernel_rfl) (fun _ _ _ h => h) XhS0.out (Or.inl ⟨by rfl, ?_⟩) ?_
            rotate_left
            · intro Wq hWq
              obtain ⟨x0, x1, x2, x3, x4, x5, x6, x7, x8⟩ := hWq
              go_simp
              try with_reducible rfl
            try simp only [Act.put, List.setIfInBounds_toArray, List.set_cons_zero, List.set_cons_succ]
            refine hoist_take (i := 2) (v := ?_) rfl (by kernel_rfl) (by kernel_rfl) (by kernel_rfl) (by kernel_rfl) (fun _ _ _ h => h) XhS0.out (Or.inl ⟨by rfl, ?_⟩) ?_
            rotate_left
            · intro Wq hWq
              obtain ⟨x0, x1, x2, x3, x4, x5, x6, x7, x8⟩ := hWq
              go_simp
              try with_reducible rfl
            try simp only [Act.put, List.setIfInBounds_toArray, List.set_cons_zero, List.set_cons_succ]
            refine hoist_take (i := 3) (v := ?_) rfl (by kernel_rfl) (by kernel_rfl) (by kernel_rfl) (by kernel_rfl) (fun _ _ _ h => h) XhS0.out (Or.inl ⟨by rfl, ?_⟩) ?_
            rotate_left
            · intro Wq hWq
              obtain ⟨x0, x1, x2, x3, x4, x5, x6, x7, x8⟩ := hWq
              go_simp
              try with_reducible rfl
            try simp only [Act.put, List.setIfInBounds_toArray, List.set_cons_zero, List.set_cons_succ]
            refine hoist_take (i := 4) (v := ?_) rfl (by kernel_rfl) (by kernel_rfl) (by kernel_rfl) (by kernel_rfl) (fun _ _ _ h => h) XhS0.out (Or.inl ⟨by rfl, ?_⟩) ?_
            rotate_left
            · intro Wq hWq
              obtain ⟨x0, x1, x2, x3, x4, x5, x6, x7, x8⟩ := hWq
              go_simp
              try with_reducible rfl
            try simp only [Act.put, List.setIfInBounds_toArray, List.set_cons_zero, List.set_cons_succ]
            refine hoist_take (i := 5) (v := ?_) rfl (by kernel_rfl) (by kernel_rfl) (by kernel_rfl) (by kernel_rfl) (fun _ _ _ h => h) XhS0.out (Or.inl ⟨by rfl, ?_⟩) ?_
            rotate_left
            · intro Wq hWq
              obtain ⟨x0, x1, x2, x3, x4, x5, x6, x7, x8⟩ := hWq
              go_simp
              try with_reducible rfl
            try simp only [Act.put, List.setIfInBounds_toArray, List.set_cons_zero, List.set_cons_succ]
            refine hoist_take (i := 6) (v := ?_) rfl (by kernel_rfl) (by kernel_rfl) (by kernel_rfl) (by kernel_rfl) (fun _ _ _ h => h) XhS0.out (Or.inl ⟨by rfl, ?_⟩) ?_
            rotate_left
            · intro Wq hWq
              obtain ⟨x0, x1, x2, x3, x4, x5, x6, x7, x8⟩ := hWq
              go_simp
              try with_reducible rfl
            try simp only [Act.put, List.setIfInBounds_toArray, List.set_cons_zero, List.set_cons_succ]
            refine hoist_one (i := 7) rfl (by kernel_rfl) (fun K hK => ?_)
            have XhK0 := Lib.hid hK
            clear hK
            go_wp2_with fail
            refine XhK0.out _ _ (fun _ => ?_) ?_
            · obtain ⟨x0, x1, x2, x3, x4, x5, x6, x7, x8⟩ := XhS0.out
              exact ⟨old_cell x0 _, old_cell x1 _, old_cell x2 _, old_cell x3 _, old_cell x4 _, old_cell x5 _, old_cell x6 _, old_cell x7 _, old_cell x8 _⟩
            refine hoist_one (i := 8) rfl (by kernel_rfl) (fun K hK => ?_)
            have XhK1 := Lib.hid hK
            clear hK
            refine list_app1 (v := vs) el_lits rfl _ _ rfl rfl rfl (own_kept XhO.out (show Keep (fun _ => True) wr _ from by first | exact (Keep.drew _ _).trans (Keep.alloc _ _ _) | exact (Keep.alloc _ _ _).trans (Keep.drew _ _)) (fun _ _ => trivial)) (litCells L (.slice aa L.atom.args.length caps)) rfl (fun j u hj => by have := cells_of_block (new_block wr (.cells (litCells L (.slice aa L.atom.args.length caps)).toArray 37)) j u (by simpa using hj); rw [Nat.zero_add] at this; exact this) (by simp [litCells, Value.oneCell']) (by omega) (by simp; omega) ?_
            intro g2 cap2 w2 ho2 hk2 hg2 hl2
            have nob : ∀ b, b < W3.heap.size → some b ≠ Value.ownBlock vs := fun b hb => own_not XhO.out hb
            have y := hk2.heap (old_block Xhsb.out _) (nob _ (by omega))
            have y2 := cells_of_block y 2 _ rfl
            have yf := box_free y 2
            simp only [Nat.zero_add] at y2
            have kk2 : Keep (fun b => b < W3.heap.size) wr w2 := (show Keep (fun b => b < W3.heap.size) wr _ from by first | exact (Keep.drew _ _).trans (Keep.alloc _ _ _) | exact (Keep.alloc _ _ _).trans (Keep.drew _ _)).trans (hk2.mono fun b _ h => nob b h)
            have Xy := Lib.hid y
            have Xho2 := Lib.hid ho2
            have Xhk2 := Lib.hid hk2
            have Xhg2 := Lib.hid hg2
            have Xnob := Lib.hid nob
            have Xkk2 := Lib.hid kk2
            clear y ho2 hk2 hg2 nob kk2
            clear d0 d1 d2 d3 d4 d5 d6 s0 f0
            go_wp2_with fail
            refine XhK1.out _ _ (fun _ => ?_) ?_
            · obtain ⟨x0, x1, x2, x3, x4, x5, x6, x7, x8⟩ := XhS0.out
              exact ⟨Xkk2.out.cell x0 (show gb < W3.heap.size by omega), Xkk2.out.cell x1 (show gb < W3.heap.size by omega), Xkk2.out.cell x2 (show gb < W3.heap.size by omega), Xkk2.out.cell x3 (show gb < W3.heap.size by omega), Xkk2.out.cell x4 (show gb < W3.heap.size by omega), Xkk2.out.cell x5 (show gb < W3.heap.size by omega), Xkk2.out.cell x6 (show gb < W3.heap.size by omega), Xkk2.out.cell x7 (show W2.heap.size + 1 < W3.heap.size by omega), Xkk2.out.cell x8 (show W2.heap.size < W3.heap.size by omega)⟩
            refine hoist_one (i := 9) rfl (by kernel_rfl) (fun K hK => ?_)
            have XhK2 := Lib.hid hK
            clear hK
            go_wp2_with fail
            refine XhK2.out _ _ (fun h => by simp at h) ?_
            refine hoist_one (i := 10) rfl (by kernel_rfl) (fun K hK => ?_)
            have XhK3 := Lib.hid hK
            clear hK
            go_wp2_with fail
            refine XhK3.out _ _ (fun h => by simp at h) ?_
            refine hoist_done (by kernel_rfl) ?_
            have kq : ∀ u, Keep (fun b => b ≠ W2.heap.size + 1) w2 (w2.setCell ⟨W2.heap.size + 1, 2, none⟩ u) := fun u => Keep.setCell _ _ _ (by simp)
            refine post_abs (fun W => ∃ (qs : List (LitD × Value)) (us : Value), Keep (fun j => j < W3.heap.size ∧ j ≠ W2.heap.size + 1) W3 W ∧ W.heap[W2.heap.size + 1]? = some (.cells #[.string r.head.pred, .slice (some ⟨gh, 0, none⟩) r.head.args.length caph, us] 27 (0, 0)) ∧ W.ownsRow W3.heap.size 37 7 us qs.length (qs.flatMap fun p => litCells p.1 p.2) ∧ Keep (fun j => j < W3.heap.size ∧ j ≠ W2.heap.size + 1) wr W ∧ qs.map (·.1) = mixTo r.body more out (k + 1) ∧ qs.length ≤ 2 * (k + 1) ∧ ∀ p, p ∈ qs → TermsIn W2.heap.size W3 p.2 p.1.atom.args) ⟨ps ++ [(L, Value.slice aa L.atom.args.length caps)], _, ?_, set_at 2 _ Xy.out, own_kept (by simpa using Xho2.out) (kq _) (fun b hb => ?_), ?_, ?_, ?_, ?_⟩ ?_
            · exact XhK.out.trans ((Xkk2.out.mono fun b _ h => h.1).trans ((kq _).mono fun b _ h => h.2))
            · have := (own_cap Xho2.out).2.2.2
              simp only [Value.ownBlock, Option.some.injEq] at hb
              omega
            · exact (Xkk2.out.mono fun b _ h => h.1).trans ((kq _).mono fun b _ h => h.2)
            · rw [List.map_append, Xhps.out, Xhmix2.out, List.append_nil]; rfl
            · simp; omega
            · intro p hp
              rcases List.mem_append.1 hp with h | h
              · exact Xhpt.out p h
              · simp only [List.mem_singleton] at h; subst h; exact Xhts.out
            clear XhS0 XhK0 XhK1 XhK2 XhK3 Xy Xho2 Xhk2 Xhg2 Xnob Xkk2 kq
            rintro W5 ⟨ps5, vs5, K5, sb5, O5, kk5, hps5, hpl5, hpt5⟩
            have hws5 := K5.size
            have XK5 := Lib.hid K5
            have Xsb5 := Lib.hid sb5
            have XO5 := Lib.hid O5
            have Xkk5 := Lib.hid kk5
            have Xhps5 := Lib.hid hps5
            have Xhpt5 := Lib.hid hpt5
            clear K5 sb5 O5 kk5 hps5 hpt5
            go_wp2_with fail
            go_roundw
            case rel => exact ⟨k + 1, ps5, vs5, by omega, by go_num, XK5.out, Xsb5.out, XO5.out, Xhps5.out, hpl5, Xhpt5.out⟩
            case measure => simp [intOf]; omega
      · obtain rfl : k = r.body.length := by omega
        have kWr : Keep (fun j => j < W2.heap.size) W2 wr := (Xk3.out.mono fun _ _ _ => trivial).trans (hK.mono fun b _ h => ⟨by omega, by omega⟩)
        have hht : TermsIn W2.heap.size wr (.slice (some ⟨gh, 0, none⟩) r.head.args.length caph) r.head.args := terms_keep (Xct.out.terms hlenh) kWr
        have hbt : LitsIn wr.heap.size wr vs (mixTo r.body more out r.body.length) := by
          have := own_lits (n0 := W2.heap.size) hO (by omega) (by omega) (fun p hp => terms_keep (hpt p hp) (hK.mono fun b _ h => ⟨by omega, by omega⟩))
          rwa [hps] at this
        obtain ⟨Bd, hBd⟩ : ∃ Bd, mixTo r.body more out r.body.length = Bd := ⟨_, rfl⟩
        have hsf : looseOf ⟨r.head, Bd⟩ = none := by rw [← hBd]; exact Xhsafe.out
        have hft : RuleFits ⟨r.head, Bd⟩ := by rw [← hBd]; exact Xhfit.out _ (Nat.le_refl _)
        rw [hBd] at hbt
        obtain ⟨av, capv, rfl, hlenv, hcapv, helv⟩ := id hbt
        have hrule : RuleIn wr.heap.size wr (.slice (some ⟨gh, 0, none⟩) r.head.args.length caph) (.slice av Bd.length capv) ⟨r.head, Bd⟩ := ⟨terms_wider hht (by omega), hbt⟩
        have hold : wr.heap[w.heap.size]? = some (.cells (ruleCells r (.slice ah r.head.args.length capH) (.slice ab r.body.length capB)).toArray 27 (0, 0)) := hK.heap (Xk3.out.heap Xa2.out trivial) ⟨by omega, by omega⟩
        have hrr : RuleIn wr.heap.size wr (.slice ah r.head.args.length capH) (.slice ab r.body.length capB) r := (Xhr.out.keep (Xkw2.out.trans (kWr.mono fun b _ h => by omega))).wider (by omega)
        have kw3 : Keep (fun k => k < w.heap.size) w wr := Xkw2.out.trans (kWr.mono fun b _ h => by omega)
        have c0 := cells_of_block hsb 0 _ rfl
        have c1 := cells_of_block hsb 1 _ rfl
        have c2 := cells_of_block hsb 2 _ rfl
        simp only [Nat.zero_add, Nat.add_zero] at c0 c1 c2
        clear hbt helv hht hps hpt hO hBd kWr hK
        have Xhsf := Lib.hid hsf
        have Xhft := Lib.hid hft
        have Xhrule := Lib.hid hrule
        have Xhold := Lib.hid hold
        have Xhrr := Lib.hid hrr
        have Xkw3 := Lib.hid kw3
        have Xhsb := Lib.hid hsb
        clear hsf hft hrule hold hrr kw3 hsb
        go_wp2_with fail
        refine (rule_any ⟨r.head, Bd⟩ _ _ _ Xhrule.out Xhft.out).mono ?_
        rintro e W5 ⟨rfl, k5⟩
        rw [Xhsf.out]
        simp only [ruleAns]
        have z5 := k5.size
        have hold5 := k5.heap Xhold.out (by omega)
        have hsb5 := k5.heap Xhsb.out (by omega)
        have hr5 := (Xhrule.out.keep k5)
        have hrr5 := (Xhrr.out.keep k5)
        have kw5 := Xkw3.out.trans (k5.mono fun b _ h => by omega)
        clear c0 c1 c2
        have c0 := cells_of_block hsb5 0 _ rfl
        have c1 := cells_of_block hsb5 1 _ rfl
        have c2 := cells_of_block hsb5 2 _ rfl
        have e0 := cells_of_block hold5 0 _ rfl
        have e1 := cells_of_block hold5 1 _ rfl
        have e2 := cells_of_block hold5 2 _ rfl
        simp only [Nat.zero_add, Nat.add_zero] at c0 c1 c2 e0 e1 e2
        clear k5
        have Xhold5 := Lib.hid hold5
        have Xhsb5 := Lib.hid hsb5
        have Xhr5 := Lib.hid hr5
        have Xhrr5 := Lib.hid hrr5
        have Xkw5 := Lib.hid kw5
        clear hold5 hsb5 hr5 hrr5 kw5
        go_wp2_with fail
        have hRs := rules_block W5 27 [(⟨r.head, Bd⟩, Value.slice (some ⟨gh, 0, none⟩) r.head.args.length caph, Value.slice av Bd.length capv), (r, Value.slice ah r.head.args.length capH, Value.slice ab r.body.length capB), (⟨r.head, Bd⟩, Value.slice (some ⟨gh, 0, none⟩) r.head.args.length caph, Value.slice av Bd.length capv)] (by simp)
          (by intro p hp; simp only [List.mem_cons, List.not_mem_nil, or_false] at hp; rcases hp with rfl | rfl | rfl; exact Xhr5.out.wider z5; exact Xhrr5.out.wider z5; exact Xhr5.out.wider z5)
        refine (check_any (W5.heap.size + 1) _ _ _ [⟨r.head, Bd⟩, r, ⟨r.head, Bd⟩] _ hRs (by simp) (by intro q hq; simp only [List.mem_cons, List.not_mem_nil, or_false] at hq; rcases hq with rfl | rfl | rfl; exact Xhft.out; exact Xhf.out; exact Xhft.out) rfl rfl).mono ?_
        rintro e W6 ⟨rfl, k6⟩
        have hchk : checkFrom [⟨r.head, Bd⟩, r, ⟨r.head, Bd⟩] 0 = .tuple #[.int .i64 0, .string ⟨#[]⟩, .int .i64 0] := by
          rw [checkFrom_none _ _ Xhsf.out, checkFrom_none _ _ Xhl.out, checkFrom_none _ _ Xhsf.out]; rfl
        rw [hchk]
        have kw6 := Xkw5.out.trans ((Keep.alloc (fun k => k < w.heap.size) W5 _).trans (k6.mono fun b _ h => by simp; omega))
        clear hchk k6 hRs c0 c1 c2 e0 e1 e2
        have Xkw6 := Lib.hid kw6
        clear kw6
        go_wp2_with fail
        refine (known_any _).mono ?_
        rintro e W7 ⟨rfl, k7⟩
        have kw7 := Xkw6.out.trans (k7.mono fun b _ h => by omega)
        clear k7
        have Xkw7 := Lib.hid kw7
        clear kw7
        go_wp2_with fail
        go_ret
        exact ⟨rfl, Xkw7.out⟩

end Go.Proofs
