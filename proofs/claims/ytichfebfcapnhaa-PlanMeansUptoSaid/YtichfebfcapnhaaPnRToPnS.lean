/- Layer 16 (plan): does a rule bind its variables: the document's; the same answer. -/
import Derived.Test.YtichfebfcapnhaaProg
import Derived.Test.YtichfebfcapnhaaPnQToOwnB
import Derived.Test.YtichfebfcapnhaaPnHToPnI
namespace Go.Proofs
open Go.RowKit Go.Ink
set_option linter.unusedVariables false
set_option linter.unusedSimpArgs false
attribute [local go_sem] Oper.semAt_some

def knownR (ls : List LitD) : List ByteArray := ls.foldl (fun K L => if L.kind = 1 then K ++ varsL L.atom.args else K) []
theorem knownR_snoc (ls : List LitD) {k : Nat} {L : LitD} (h : ls[k]? = some L) : knownR (ls.take (k + 1)) = if L.kind = 1 then knownR (ls.take k) ++ varsL L.atom.args else knownR (ls.take k) := by
  unfold knownR
  rw [List.take_add_one, h, List.foldl_append]
  rfl
def safeR (r : RuleD) : Bool := (varsL r.head.args).all (fun x => decide (x ∈ knownR r.body)) && r.body.all (fun L => (varsL (termsP L)).all fun x => decide (x ∈ knownR r.body))
theorem newL_mem {K : List ByteArray} {ts : List TermD} {x : ByteArray} : x ∈ newL K ts ↔ x ∈ varsL ts ∧ x ∉ K := by
  rw [← fresh_new]
  unfold freshL
  simp only [List.mem_filter, Bool.not_eq_true', decide_eq_false_iff_not]
theorem known_mem (ls : List LitD) (x : ByteArray) : x ∈ knownR ls ↔ x ∈ factsK ls := by
  have h : ∀ k, k ≤ ls.length → (x ∈ knownR (ls.take k) ↔ x ∈ factsK (ls.take k)) := by
    intro k
    induction k with
    | zero => intro _; simp [knownR, factsK]
    | succ k ih =>
      intro hk
      have ih := ih (by omega)
      have hL := List.getElem?_eq_getElem (show k < ls.length by omega)
      rw [knownR_snoc ls hL, factsK_snoc ls hL]
      split
      · rw [List.mem_append, List.mem_append, newL_mem, ih]
        constructor
        · rintro (h | h)
          · exact .inl h
          · by_cases hx : x ∈ factsK (ls.take k)
            · exact .inl hx
            · exact .inr ⟨h, hx⟩
        · rintro (h | h)
          · exact .inl h
          · exact .inr h.1
      · exact ih
  have := h ls.length (Nat.le_refl _)
  rwa [List.take_length] at this
theorem facts_has {ls : List LitD} {L : LitD} (hL : L ∈ ls) (h1 : L.kind = 1) {x : ByteArray} (hx : x ∈ varsL L.atom.args) : x ∈ knownR ls := by
  obtain ⟨k, hk⟩ := List.mem_iff_getElem?.1 hL
  have hlt := (List.getElem?_eq_some_iff.1 hk).1
  have h : ∀ j, k + 1 + j ≤ ls.length → x ∈ knownR (ls.take (k + 1 + j)) := by
    intro j
    induction j with
    | zero => intro _; rw [Nat.add_zero, knownR_snoc ls hk, if_pos h1]; exact List.mem_append_right _ hx
    | succ j ih =>
      intro hj
      rw [show k + 1 + (j + 1) = k + 1 + j + 1 by omega, knownR_snoc ls (List.getElem?_eq_getElem (show k + 1 + j < ls.length by omega))]
      split
      · exact List.mem_append_left _ (ih (by omega))
      · exact ih (by omega)
  have := h (ls.length - (k + 1)) (by omega)
  rwa [show k + 1 + (ls.length - (k + 1)) = ls.length by omega, List.take_length] at this
theorem all_same {l : List ByteArray} {K K' : List ByteArray} (h : ∀ x, x ∈ K ↔ x ∈ K') : l.all (fun x => decide (x ∈ K)) = l.all (fun x => decide (x ∈ K')) := by
  congr 1
  funext x
  rw [decide_eq_decide]
  exact h x
theorem safe_same (r : RuleD) : safeR r = safeP r := by
  unfold safeR safeP
  congr 1
  · rw [all_same (known_mem r.body), ready_vars]
  · rw [Bool.eq_iff_iff, List.all_eq_true, List.all_eq_true]
    have e : ∀ L, L ∈ r.body → ((varsL (termsP L)).all (fun x => decide (x ∈ knownR r.body)) = true ↔ readyP (factsK r.body) L = true) := by
      intro L hL
      rw [all_same (known_mem r.body), ready_vars]
      unfold readyP
      by_cases h1 : L.kind = 1
      · rw [decide_eq_true h1, Bool.true_or]
        refine ⟨fun _ => rfl, fun _ => ?_⟩
        have ht : termsP L = L.atom.args := by unfold termsP; rw [if_neg (by omega)]
        rw [ht, ← ready_vars, List.all_eq_true]
        intro x hx
        rw [decide_eq_true_eq, ← known_mem]
        exact facts_has hL h1 hx
      · rw [decide_eq_false h1, Bool.false_or]
    exact ⟨fun h L hL => (e L hL).1 (h L hL), fun h L hL => (e L hL).2 (h L hL)⟩
theorem knownR_len {ls : List LitD} (h : ∀ L, L ∈ ls → L.kind = 1 → L.atom.args.length ≤ 16) (k : Nat) (hk : k ≤ ls.length) : (knownR (ls.take k)).length ≤ 16 * k := by
  induction k with
  | zero => simp [knownR]
  | succ k ih =>
    have ih := ih (by omega)
    have hL := List.getElem?_eq_getElem (show k < ls.length by omega)
    rw [knownR_snoc ls hL]
    split
    · rename_i h1
      rw [List.length_append]
      have := h _ (List.getElem_mem _) h1
      have := varsL_len (ls[k]'(by omega)).atom.args
      omega
    · omega
theorem formed_args {r : RuleD} (h : formedB r = true) : r.body.length ≤ 256 ∧ ∀ L, L ∈ r.body → L.kind = 1 → L.atom.args.length ≤ 16 := by
  unfold formedB at h
  rw [Bool.and_eq_true, Bool.and_eq_true, decide_eq_true_eq, List.all_eq_true] at h
  refine ⟨h.1.1, fun L hL h1 => ?_⟩
  have := h.2 L hL
  unfold litB at this
  rw [if_pos (.inl h1), Bool.and_eq_true, Bool.and_eq_true] at this
  have := this.1.1
  unfold atomB at this
  rw [Bool.and_eq_true, Bool.and_eq_true, decide_eq_true_eq] at this
  exact this.1.2

/-- a row of one's own as a source -/
theorem own_src {w : World} {base : Nat} {e : TypeId} {sz m c : Nat} {a : Option Addr} {xs : List Value} (h : w.ownsRow base e sz (.slice a m c) m xs) : (∀ b, a = some b → ∀ j u, xs[j]? = some u → w.cell? (b.add j) = some u) ∧ (a = none → m = 0) := by
  rcases h.2 with ⟨h1, h2⟩ | ⟨g, cc, cur, h1, _⟩
  · cases h1; exact ⟨fun b hb => (by cases hb), fun _ => rfl⟩
  · cases h1; exact ⟨fun b hb j u hj => (by cases hb; exact h.cells rfl j u hj), fun ha => (by cases ha)⟩
set_option maxRecDepth 100000 in
set_option maxHeartbeats 1000000 in
theorem refSafe_any (n : Nat) (r : RuleD) (hF : formedB r = true) (sh sb : Value) (w : World) (hr : RuleIn n w sh sb r) (hn : n ≤ w.heap.size) : Calls Try.prog 75 #[ruleV r sh sb] w fun e w' => e = .returned (.bool (safeP r)) ∧ Keep (fun b => b < w.heap.size) w w' := by
  rw [← safe_same]
  obtain ⟨h256, h16⟩ := formed_args hF
  have hkl := fun k hk => knownR_len h16 k hk
  obtain ⟨hh, hb⟩ := id hr
  have hvh := fun W (hK : Keep (fun b => b < w.heap.size) w W) => refVars_any n sh r.head.args W (terms_keep hh (hK.mono fun b _ h => by omega)) (by have := hK.size; omega)
  have hvl := varsL_len r.head.args
  have hE : safeR r = ((varsL r.head.args).all (fun x => decide (x ∈ knownR r.body)) && r.body.all (fun L => (varsL (termsP L)).all fun x => decide (x ∈ knownR r.body))) := rfl
  obtain ⟨⟨pr, args⟩, body⟩ := r
  unfold ruleV
  simp only at hE hh hb hkl h256 h16 hvh hvl ⊢
  obtain ⟨aa, ca, rfl, hla, -, -⟩ := id hh
  obtain ⟨ab, cb, rfl, hlb, hcb, heb⟩ := id hb
  obtain ⟨N, hN⟩ : ∃ N, w.heap.size = N := ⟨_, rfl⟩
  have hnN : n ≤ N := by omega
  clear hh hb hr hF
  have XhE := Lib.hid hE
  have Xheb := Lib.hid heb
  have Xhkl := Lib.hid hkl
  have Xhvh := Lib.hid hvh
  have XhN := Lib.hid hN
  have Xh16 := Lib.hid h16
  clear hE heb hkl hvh hN h16
  go_enter Try.func75, Try.ntmps75
  go_wp2_with fail
  refine wp_abs (fun W => Keep (fun b => b < w.heap.size) w W ∧ W.heap.size = w.heap.size + 1 ∧ W.heap[w.heap.size]? = some (.cells #[.string pr, .slice aa args.length ca, .slice ab body.length cb] 28 (0, 0))) ⟨Keep.alloc _ _ _, by simp, new_block _ _⟩ ?_
  rintro W0 ⟨k0, z0, a1⟩
  rw [XhN.out] at k0 z0 a1 ⊢
  have Xk0 := Lib.hid k0
  have Xa1 := Lib.hid a1
  clear k0 a1
  go_loopw [3, 4] (fun v3 i' wr => ∃ k : Nat, k ≤ body.length ∧ i' = .int .i64 (k : Int) ∧ Keep (fun b => b < N + 1) W0 wr ∧ wr.ownsRow (N + 1) 9 1 v3 (knownR (body.take k)).length ((knownR (body.take k)).map .string)) (fun _ i _ => body.length - (intOf i).toNat)
  case atStart => exact ⟨0, by omega, rfl, Keep.refl _ _, World.ownsRow_nil _ _ _ _⟩
  case round =>
    obtain ⟨k, hk, rfl, hK, ho⟩ := hrel
    have hsz := hK.size
    have b1 := hK.heap Xa1.out (show N < N + 1 by omega)
    have c2 := cells_of_block b1 2 _ rfl
    have c1 := cells_of_block b1 1 _ rfl
    simp only [Nat.zero_add] at c2 c1
    have hNl : N < wr.heap.size := by omega
    have kw : Keep (fun b => b < N) w wr := Xk0.out.trans (hK.mono fun b _ h => by omega)
    clear b1
    by_cases hlt : k < body.length
    · have hlt1 : (k : Int) < body.length := by omega
      have hk0 : (0 : Int) ≤ k := by omega
      obtain ⟨x, hx⟩ : ∃ x, body[k]? = some x := ⟨_, List.getElem?_eq_getElem hlt⟩
      obtain ⟨b, o, rfl, hb, sa, hcl, hsa⟩ := Xheb.out k x hx
      have d0 := kw.cell (hcl 0 _ rfl) (show b < N by omega)
      have d2 := kw.cell (hcl 2 _ rfl) (show b < N by omega)
      simp only [Nat.add_zero] at d0
      have hbw : b < wr.heap.size := by omega
      have hfs := knownR_snoc body hx
      by_cases hk1 : x.kind = 1
      · rw [if_pos hk1] at hfs
        have h16x := Xh16.out x (List.mem_of_getElem? hx) hk1
        have hv := refVars_any n sa x.atom.args wr (terms_keep hsa (kw.mono fun b _ h => by omega)) (by omega)
        have hk1b : (x.kind == 1) = true := by simp [hk1]
        obtain ⟨asa, csa, rfl, -, -, -⟩ := id hsa
        have hkl1 := Xhkl.out k hk
        have hvx := varsL_len x.atom.args
        clear hcl hsa hx hk1
        have XhK := Lib.hid hK
        have Xkw := Lib.hid kw
        have Xhfs := Lib.hid hfs
        have Xhv := Lib.hid hv
        have Xho := Lib.hid ho
        clear hK kw hfs hv ho
        go_wp2_with fail
        refine Xhv.out.mono ?_
        rintro e W1 ⟨v1, rfl, hov, k1⟩
        have hz1 := k1.size
        have ho1 := own_kept Xho.out k1 (fun b hb => (World.ownsRow.lt Xho.out b hb).2)
        obtain ⟨av, cv, rfl⟩ := own_form hov
        have hsrc := own_src hov
        obtain ⟨v', W3, hr3, ho3, hg3, hk3⟩ := appA (P := Try.prog) el_strs 71 ho1 av (varsL x.atom.args).length cv ((varsL x.atom.args).map .string) (by simp) hsrc.1 hsrc.2 (by simp [Value.oneCell']) (by omega) (by omega)
        rw [← List.map_append, ← Xhfs.out, ← List.length_append, ← Xhfs.out] at ho3
        have hK3 : Keep (fun b => b < N + 1) W0 W3 := (XhK.out.trans (k1.mono fun b hb h => by omega)).trans (hk3.mono fun b hb h e => by
          rcases hg3 b e with h1 | h1
          · have := (World.ownsRow.lt Xho.out b h1).1; omega
          · omega)
        obtain ⟨a3, c3, rfl⟩ := own_form ho3
        clear hk3 hg3 ho1 hov k1
        have Xhr3 := Lib.hid hr3
        have Xho3 := Lib.hid ho3
        have XhK3 := Lib.hid hK3
        clear hr3 ho3 hK3
        go_wp2_with (at_builtin; refine go_app (v := u3) (u := .slice av (varsL x.atom.args).length cv) (v' := .slice a3 (knownR (body.take (k + 1))).length c3) (w' := W3) rfl (.tmp 20) (.tmp 28) 71 rfl rfl rfl Xhr3.out ?_)
        go_roundw
        case rel => exact ⟨k + 1, by omega, by go_num, XhK3.out, Xho3.out⟩
        case measure => simp [intOf]; omega
      · have hk1b : (x.kind == 1) = false := beq_eq_false_iff_ne.2 hk1
        rw [if_neg hk1] at hfs
        rw [← hfs] at ho
        clear hcl hsa hx hk1 d2
        have XhK := Lib.hid hK
        have Xkw := Lib.hid kw
        have Xhfs := Lib.hid hfs
        have Xho := Lib.hid ho
        clear hK kw hfs ho
        go_wp2_with fail
        go_roundw
        case rel => exact ⟨k + 1, by omega, by go_num, XhK.out, Xho.out⟩
        case measure => simp [intOf]; omega
    · obtain rfl : k = body.length := by omega
      rw [List.take_length] at ho
      have hkl1 := Xhkl.out body.length (Nat.le_refl _)
      rw [List.take_length] at hkl1
      obtain ⟨Kn, hKn⟩ : ∃ K, knownR body = K := ⟨_, rfl⟩
      rw [hKn] at ho hkl1
      have hE2 : safeR ⟨⟨pr, args⟩, body⟩ = ((varsL args).all (fun x => decide (x ∈ Kn)) && body.all (fun L => (varsL (termsP L)).all fun x => decide (x ∈ Kn))) := by rw [XhE.out, hKn]
      have hsK := own_strs ho (by omega)
      obtain ⟨a3, c3, rfl⟩ := own_form ho
      clear hKn XhE Xhkl ho
      have hKa : Keep (fun b => b < N + 1) W0 wr := hK
      have b1 := hK.heap Xa1.out (show N < N + 1 by omega)
      obtain ⟨Wk, hWk⟩ : ∃ Wk, Wk = wr := ⟨_, rfl⟩
      subst hWk
      have hall := fun W va xs n2 (hK2 : Keep (fun b => b < Wk.heap.size) Wk W) (h : StrsIn n2 W va xs) (h2 : n2 ≤ W.heap.size) (h3 : Wk.heap.size ≤ n2) => refAll_any n2 va (.slice a3 Kn.length c3) xs Kn W h (strs_wider (strs_keep hsK hK2) h3) h2
      have XhK := Lib.hid hK
      have Xkw := Lib.hid kw
      have XhE2 := Lib.hid hE2
      have XhsK := Lib.hid hsK
      have Xhall := Lib.hid hall
      have Xb1 := Lib.hid b1
      have XhKa := Lib.hid hKa
      clear hK kw hE2 hsK hall b1 hKa
      go_wp2_with fail
      go_loopw [5] (fun i' wq => ∃ k : Nat, k ≤ body.length ∧ i' = .int .i64 (k : Int) ∧ Keep (fun b => b < Wk.heap.size) Wk wq ∧ (body.take k).all (fun L => (varsL (termsP L)).all fun x => decide (x ∈ Kn)) = true) (fun i _ => body.length - (intOf i).toNat)
      case atStart => exact ⟨0, by omega, rfl, Keep.refl _ _, rfl⟩
      case round =>
        obtain ⟨k, hk, rfl, hK2, hal⟩ := hrel
        have hsz2 := hK2.size
        have c1 := hK2.cell (cells_of_block Xb1.out 1 _ rfl) (show N < Wk.heap.size by omega)
        have c2 := hK2.cell (cells_of_block Xb1.out 2 _ rfl) (show N < Wk.heap.size by omega)
        simp only [Nat.zero_add] at c1 c2
        have hNl2 : N < wr.heap.size := by omega
        have kw2 : Keep (fun b => b < N) w wr := Xkw.out.trans (hK2.mono fun b _ h => by omega)
        by_cases hlt : k < body.length
        · have hlt1 : (k : Int) < body.length := by omega
          have hk0 : (0 : Int) ≤ k := by omega
          obtain ⟨x, hx⟩ : ∃ x, body[k]? = some x := ⟨_, List.getElem?_eq_getElem hlt⟩
          obtain ⟨b, o, rfl, hb, sa, hcl, hsa⟩ := Xheb.out k x hx
          have hT := refTerms_any n x sa wr (terms_keep hsa (kw2.mono fun b _ h => by omega)) (by omega)
          obtain ⟨asa, csa, rfl, -, -, -⟩ := id hsa
          have g : ∀ j v, (litCells x (.slice asa x.atom.args.length csa))[j]? = some v → wr.cell? ⟨b, o + k * 7 + j, none⟩ = some v := fun j v h => kw2.cell (hcl j v h) (show b < N by omega)
          have d0 := g 0 _ rfl
          have d1 := g 1 _ rfl
          have d2 := g 2 _ rfl
          have d3 := g 3 _ rfl
          have d4 := g 4 _ rfl
          have d5 := g 5 _ rfl
          have d6 := g 6 _ rfl
          simp only [Nat.add_zero] at d0
          have hbw : b < wr.heap.size := by omega
          have hst := all_step (fun L => (varsL (termsP L)).all fun x => decide (x ∈ Kn)) body hx
          rw [hal, Bool.true_and] at hst
          have hno := all_not (fun L => (varsL (termsP L)).all fun x => decide (x ∈ Kn)) body hx
          obtain ⟨bv, hbv⟩ : ∃ b, ((varsL (termsP x)).all fun x => decide (x ∈ Kn)) = b := ⟨_, rfl⟩
          simp only [hbv] at hst hno
          have htl : (termsP x).length ≤ 1073741824 := by
            obtain ⟨_, _, _, h, _⟩ := hsa
            unfold termsP
            split
            · simp
            · exact h
          have hvx := varsL_len (termsP x)
          unfold litV at hT
          clear g hcl hsa hx hal
          have XhK2 := Lib.hid hK2
          have Xkw2 := Lib.hid kw2
          have Xhst := Lib.hid hst
          have Xhno := Lib.hid hno
          have XhT := Lib.hid hT
          have Xhbv := Lib.hid hbv
          clear hK2 kw2 hst hno hT hbv
          go_wp2_with fail
          refine XhT.out.mono ?_
          rintro e W1 ⟨vt, rfl, hvt, k1⟩
          have hz1 := k1.size
          have hV := refVars_any W1.heap.size vt (termsP x) W1 hvt (Nat.le_refl _)
          obtain ⟨at1, ct1, rfl, -, -, -⟩ := id hvt
          have XhV := Lib.hid hV
          have Xk1 := Lib.hid k1
          clear hV k1
          go_wp2_with fail
          refine XhV.out.mono ?_
          rintro e W2 ⟨vv, rfl, hov, k2⟩
          have hz2 := k2.size
          have hK3 : Keep (fun b => b < Wk.heap.size) Wk W2 := (XhK2.out.trans (Xk1.out.mono fun _ _ _ => trivial)).trans (k2.mono fun b _ h => by omega)
          have hA := Xhall.out W2 vv (varsL (termsP x)) W2.heap.size hK3 (own_strs hov (by omega)) (Nat.le_refl _) hK3.size
          rw [Xhbv.out] at hA
          obtain ⟨av, cv, rfl⟩ := own_form hov
          clear hov k2
          have XhA := Lib.hid hA
          have XhK3 := Lib.hid hK3
          clear hA hK3
          cases bv
          · go_wp2_with fail
            refine XhA.out.mono ?_
            rintro e w9 ⟨rfl, hw9⟩; have hw9 := hw9.symm; subst hw9
            go_wp2_with fail
            go_ret
            exact ⟨by rw [XhE2.out, Xhno.out (by trivial), Bool.and_false]; rfl, (Xkw.out.trans (XhK3.out.mono fun b _ h => by omega)).mono fun b _ h => by have := XhN.out; omega⟩
          · go_wp2_with fail
            refine XhA.out.mono ?_
            rintro e w9 ⟨rfl, hw9⟩; have hw9 := hw9.symm; subst hw9
            go_wp2_with fail
            go_roundw
            case rel => exact ⟨k + 1, by omega, by go_num, XhK3.out, Xhst.out⟩
            case measure => simp [intOf]; omega
        · obtain rfl : k = body.length := by omega
          rw [List.take_length] at hal
          have hV := Xhvh.out wr (kw2.mono fun b _ h => by have := XhN.out; omega)
          have hE3 : safeR ⟨⟨pr, args⟩, body⟩ = ((varsL args).all (fun x => decide (x ∈ Kn))) := by rw [XhE2.out, hal, Bool.and_true]
          have XhK2 := Lib.hid hK2
          have Xkw2 := Lib.hid kw2
          have XhV := Lib.hid hV
          have Xhal := Lib.hid hal
          have XhE3 := Lib.hid hE3
          clear hK2 kw2 hV hal hE3
          go_wp2_with fail
          refine XhV.out.mono ?_
          rintro e W2 ⟨vv, rfl, hov, k2⟩
          have hz2 := k2.size
          have hK3 : Keep (fun b => b < Wk.heap.size) Wk W2 := XhK2.out.trans (k2.mono fun b _ h => by omega)
          have hA := Xhall.out W2 vv (varsL args) W2.heap.size hK3 (own_strs hov (by omega)) (Nat.le_refl _) hK3.size
          obtain ⟨av, cv, rfl⟩ := own_form hov
          clear hov k2
          have XhA := Lib.hid hA
          have XhK3 := Lib.hid hK3
          clear hA hK3
          go_wp2_with fail
          refine XhA.out.mono ?_
          rintro e w9 ⟨rfl, hw9⟩; have hw9 := hw9.symm; subst hw9
          go_wp2_with fail
          go_ret
          exact ⟨by rw [XhE3.out]; rfl, (Xkw.out.trans (XhK3.out.mono fun b _ h => by omega)).mono fun b _ h => by have := XhN.out; omega⟩
end Go.Proofs

/- Layer 16 (plan): the refusals of Make and Least: the program's and the document's. -/
namespace Go.Proofs
open Go.RowKit Go.Ink
set_option linter.unusedVariables false
set_option linter.unusedSimpArgs false
attribute [local go_sem] Oper.semAt_some

def askedD (r : RuleD) (l : List SizeD) (arg : Bool) : Int := if !formedB r || !usableB l || arg then 2 else if !safeP r then 14 else 0

set_option maxRecDepth 100000 in
theorem asked_any (n : Nat) (r : RuleD) (sh sb : Value) (l : List SizeD) (sv : Value) (w : World) (hr : RuleIn n w sh sb r) (hl : SizesIn n w sv l) (hn : n ≤ w.heap.size) : Calls Try.prog 37 #[ruleV r sh sb, sv] w fun e w' => e = .returned (.int .i64 (askedD r l false)) ∧ Keep (fun b => b < w.heap.size) w w' := by
  have h1 := fun W (hK : Keep (fun b => b < w.heap.size) w W) => formed_any n r sh sb W (hr.keep (hK.mono fun b _ h => by omega)) (by have := hK.size; omega)
  have h2 := fun W (hK : Keep (fun b => b < w.heap.size) w W) => usable_any n l sv W (hl.keep (hK.mono fun b _ h => by omega)) (by have := hK.size; omega)
  have h3 := fun W (hK : Keep (fun b => b < w.heap.size) w W) => safe_any n r sh sb W (hr.keep (hK.mono fun b _ h => by omega)) (by have := hK.size; omega)
  have hE : askedD r l false = if !formedB r || !usableB l || false then 2 else if !safeP r then 14 else 0 := rfl
  obtain ⟨b1, hb1⟩ : ∃ b, formedB r = b := ⟨_, rfl⟩
  obtain ⟨b2, hb2⟩ : ∃ b, usableB l = b := ⟨_, rfl⟩
  obtain ⟨b3, hb3⟩ : ∃ b, safeP r = b := ⟨_, rfl⟩
  simp only [hb1] at h1
  simp only [hb2] at h2
  simp only [hb3] at h3
  rw [hb1, hb2, hb3] at hE
  obtain ⟨asv, csv, rfl, -, -, -⟩ := id hl
  obtain ⟨⟨pr, args⟩, body⟩ := r
  obtain ⟨hh, hb⟩ := id hr
  unfold ruleV at h1 h3 ⊢
  simp only at hh hb h1 h3 hE ⊢
  obtain ⟨aa, ca, rfl, -, -, -⟩ := id hh
  obtain ⟨ab, cb, rfl, -, -, -⟩ := id hb
  obtain ⟨W0, hW0⟩ : ∃ W0, w.alloc (.cells #[.string pr, .slice aa args.length ca, .slice ab body.length cb] 28) = W0 := ⟨_, rfl⟩
  have k0 : Keep (fun b => b < w.heap.size) w W0 := by rw [← hW0]; exact Keep.alloc _ _ _
  have hz := k0.size
  have bx : W0.heap[w.heap.size]? = some (.cells #[.string pr, .slice aa args.length ca, .slice ab body.length cb] 28 (0, 0)) := by rw [← hW0]; exact new_block _ _
  have l0 := heap_lt bx
  have c0 := cells_of_block bx 0 _ rfl
  have c1 := cells_of_block bx 1 _ rfl
  have c2 := cells_of_block bx 2 _ rfl
  simp only [Nat.zero_add] at c0 c1 c2
  clear hb1 hb2 hb3 hh hb hr hl bx
  have Xh1 := Lib.hid h1
  have Xh2 := Lib.hid h2
  have Xh3 := Lib.hid h3
  have XhE := Lib.hid hE
  have XhW0 := Lib.hid hW0
  have Xk0 := Lib.hid k0
  clear h1 h2 h3 hE hW0 k0
  cases b1
  · go_enter Try.func37, Try.ntmps37
    go_wp2_with fail
    rw [XhW0.out]
    refine (Xh1.out _ Xk0.out).mono ?_
    rintro e W1 ⟨rfl, k1⟩
    go_wp2_with fail
    go_ret
    exact ⟨by rw [XhE.out]; rfl, Xk0.out.trans (k1.mono fun b hb _ => by omega)⟩
  · cases b2
    all_goals go_enter Try.func37, Try.ntmps37
    all_goals go_wp2_with fail
    all_goals rw [XhW0.out]
    all_goals refine (Xh1.out _ Xk0.out).mono ?_
    all_goals (rintro e W1 ⟨rfl, k1⟩; have e0 := k1.cell c0 l0; have e1 := k1.cell c1 l0; have e2 := k1.cell c2 l0; have z1 := k1.size; have kk : Keep (fun b => b < w.heap.size) w W1 := Xk0.out.trans (k1.mono fun b hb _ => (by omega)); have l1 : w.heap.size < W1.heap.size := (by omega); clear c0 c1 c2)
    all_goals (have Xkk := Lib.hid kk; have Xk1 := Lib.hid k1; clear kk k1)
    all_goals go_wp2_with fail
    all_goals refine (Xh2.out _ Xkk.out).mono ?_
    all_goals (rintro e W2 ⟨rfl, k2⟩; have f0 := k2.cell e0 l1; have f1 := k2.cell e1 l1; have f2 := k2.cell e2 l1; have z2 := k2.size; have kk2 : Keep (fun b => b < w.heap.size) w W2 := Xkk.out.trans (k2.mono fun b hb _ => (by omega)); have l2 : w.heap.size < W2.heap.size := (by omega); clear e0 e1 e2)
    all_goals (have Xkk2 := Lib.hid kk2; have Xk2 := Lib.hid k2; clear kk2 k2)
    · go_wp2_with fail
      go_ret
      exact ⟨by rw [XhE.out]; rfl, Xkk2.out⟩
    · cases b3
      all_goals go_wp2_with fail
      all_goals refine (Xh3.out _ Xkk2.out).mono ?_
      all_goals (rintro e W3 ⟨rfl, k3⟩)
      all_goals go_wp2_with fail
      all_goals go_ret
      all_goals exact ⟨by rw [XhE.out]; rfl, Xkk2.out.trans (k3.mono fun b hb _ => by omega)⟩

set_option maxRecDepth 100000 in
theorem refAsked_any (n : Nat) (r : RuleD) (hsm : smallR r) (sh sb : Value) (l : List SizeD) (sv : Value) (arg : Bool) (w : World) (hr : RuleIn n w sh sb r) (hl : SizesIn n w sv l) (hn : n ≤ w.heap.size) : Calls Try.prog 43 #[ruleV r sh sb, sv, .bool arg] w fun e w' => e = .returned (.int .i64 (askedD r l arg)) ∧ Keep (fun b => b < w.heap.size) w w' := by
  have h1 := fun W (hK : Keep (fun b => b < w.heap.size) w W) => refFormed_any n r hsm sh sb W (hr.keep (hK.mono fun b _ h => by omega)) (by have := hK.size; omega)
  have h2 := fun W (hK : Keep (fun b => b < w.heap.size) w W) => may_any n l sv W (hl.keep (hK.mono fun b _ h => by omega)) (by have := hK.size; omega)
  have h3 := fun (hF : formedB r = true) W (hK : Keep (fun b => b < w.heap.size) w W) => refSafe_any n r hF sh sb W (hr.keep (hK.mono fun b _ h => by omega)) (by have := hK.size; omega)
  have hE : askedD r l arg = if !formedB r || !usableB l || arg then 2 else if !safeP r then 14 else 0 := rfl
  obtain ⟨b1, hb1⟩ : ∃ b, formedB r = b := ⟨_, rfl⟩
  obtain ⟨b2, hb2⟩ : ∃ b, usableB l = b := ⟨_, rfl⟩
  obtain ⟨b3, hb3⟩ : ∃ b, safeP r = b := ⟨_, rfl⟩
  simp only [hb1] at h1 h3
  simp only [hb2] at h2
  simp only [hb3] at h3
  rw [hb1, hb2, hb3] at hE
  obtain ⟨asv, csv, rfl, -, -, -⟩ := id hl
  obtain ⟨⟨pr, args⟩, body⟩ := r
  obtain ⟨hh, hb⟩ := id hr
  unfold ruleV at h1 h3 ⊢
  simp only at hh hb h1 h3 hE ⊢
  obtain ⟨aa, ca, rfl, -, -, -⟩ := id hh
  obtain ⟨ab, cb, rfl, -, -, -⟩ := id hb
  obtain ⟨W0, hW0⟩ : ∃ W0, w.alloc (.cells #[.string pr, .slice aa args.length ca, .slice ab body.length cb] 28) = W0 := ⟨_, rfl⟩
  have k0 : Keep (fun b => b < w.heap.size) w W0 := by rw [← hW0]; exact Keep.alloc _ _ _
  have hz := k0.size
  have bx : W0.heap[w.heap.size]? = some (.cells #[.string pr, .slice aa args.length ca, .slice ab body.length cb] 28 (0, 0)) := by rw [← hW0]; exact new_block _ _
  have l0 := heap_lt bx
  have c0 := cells_of_block bx 0 _ rfl
  have c1 := cells_of_block bx 1 _ rfl
  have c2 := cells_of_block bx 2 _ rfl
  simp only [Nat.zero_add] at c0 c1 c2
  clear hb1 hb2 hb3 hh hb hr hl bx hsm
  have Xh1 := Lib.hid h1
  have Xh2 := Lib.hid h2
  have Xh3 := Lib.hid h3
  have XhE := Lib.hid hE
  have XhW0 := Lib.hid hW0
  have Xk0 := Lib.hid k0
  clear h1 h2 h3 hE hW0 k0
  cases b1
  · go_enter Try.func43, Try.ntmps43
    go_wp2_with fail
    rw [XhW0.out]
    refine (Xh1.out _ Xk0.out).mono ?_
    rintro e W1 ⟨rfl, k1⟩
    go_wp2_with fail
    go_ret
    exact ⟨by rw [XhE.out]; rfl, Xk0.out.trans (k1.mono fun b hb _ => by omega)⟩
  · cases b2
    all_goals go_enter Try.func43, Try.ntmps43
    all_goals go_wp2_with fail
    all_goals rw [XhW0.out]
    all_goals refine (Xh1.out _ Xk0.out).mono ?_
    all_goals (rintro e W1 ⟨rfl, k1⟩; have e0 := k1.cell c0 l0; have e1 := k1.cell c1 l0; have e2 := k1.cell c2 l0; have z1 := k1.size; have kk : Keep (fun b => b < w.heap.size) w W1 := Xk0.out.trans (k1.mono fun b hb _ => (by omega)); have l1 : w.heap.size < W1.heap.size := (by omega); clear c0 c1 c2)
    all_goals (have Xkk := Lib.hid kk; have Xk1 := Lib.hid k1; clear kk k1)
    all_goals go_wp2_with fail
    all_goals refine (Xh2.out _ Xkk.out).mono ?_
    all_goals (rintro e w9 ⟨rfl, hw9⟩; have hw9 := hw9.symm; subst hw9)
    · go_wp2_with fail
      go_ret
      exact ⟨by rw [XhE.out]; rfl, Xkk.out⟩
    · cases arg
      · cases b3
        all_goals go_wp2_with fail
        all_goals refine (Xh3.out (by trivial) _ Xkk.out).mono ?_
        all_goals (rintro e W3 ⟨rfl, k3⟩)
        all_goals go_wp2_with fail
        all_goals go_ret
        all_goals exact ⟨by rw [XhE.out]; rfl, Xkk.out.trans (k3.mono fun b hb _ => by omega)⟩
      · go_wp2_with fail
        go_ret
        exact ⟨by rw [XhE.out]; rfl, Xkk.out⟩
end Go.Proofs
