/- The iterator of a rule's variables where they stand (safe.stands). -/
import Derived.Test.YtdedcebabimioaaProg
import Derived.Test.YtdedcebabimioaaTerms
namespace Go.Proofs
open Go.RowKit Go.Ink
set_option linter.unusedVariables false
set_option linter.unusedSimpArgs false
attribute [local go_sem] Oper.semAt_some

/-- the cells of a rule -/
def ruleCells (r : RuleD) (sh sb : Value) : List Value := [.string r.head.pred, sh, sb]
/-- what the iterator of a rule's variables leans on -/
def standsV (n0 Bx : Nat) (w0 : World) (cs : Array Value) (W : World) : Prop := W.heap[Bx]? = some (.cells cs 27 (0, 0)) ∧ Keep (fun k => k < n0) w0 W
theorem standsV_keep {n0 Bx : Nat} {w0 : World} {cs : Array Value} {W W' : World} {C : Nat → Prop} (h : standsV n0 Bx w0 cs W) (hK : Keep C W W') (hC : ∀ k, k < n0 → C k) (hB : C Bx) : standsV n0 Bx w0 cs W' :=
  ⟨hK.heap h.1 hB, h.2.trans (hK.mono fun k _ hk => hC k hk)⟩
theorem termsV_keep {n0 Bx : Nat} {w0 : World} {cs : Array Value} {W W' : World} {C : Nat → Prop} (h : termsV n0 Bx w0 cs W) (hK : Keep C W W') (hC : ∀ k, k < n0 → C k) (hB : C Bx) : termsV n0 Bx w0 cs W' :=
  ⟨hK.heap h.1 hB, h.2.trans (hK.mono fun k _ hk => hC k hk)⟩

/-- the iterator's own state between two rounds -/
structure StandsSt (n0 Bx : Nat) (w0 : World) (cs : Array Value) (J : Nat → (Nat → Prop) → World → Prop) (S By Bh Bi : Nat) (yv : Value) (hc : Array Value) (iv : Int) (j : Nat) (Oo : Nat → Prop) (W : World) : Prop where
  j : J j Oo W
  v : standsV n0 Bx w0 cs W
  s : S ≤ W.heap.size
  o : ∀ b, Oo b → b < W.heap.size
  y : W.heap[By]? = some (.cells #[yv] 88 (0, 0))
  h : W.heap[Bh]? = some (.cells hc 37 (0, 0))
  i : W.heap[Bi]? = some (.cells #[.int .i64 iv] 3 (0, 0))
  ny : ¬ Oo By
  nh : ¬ Oo Bh
  ni : ¬ Oo Bi
  sy : S ≤ By
  sh : S ≤ Bh
  si : S ≤ Bi

theorem StandsSt.keep {n0 Bx : Nat} {w0 : World} {cs : Array Value} {J : Nat → (Nat → Prop) → World → Prop} {S By Bh Bi : Nat} {yv : Value} {hc : Array Value} {iv : Int} {j : Nat} {Oo : Nat → Prop} {W W' : World} {C : Nat → Prop}
    (h : StandsSt n0 Bx w0 cs J S By Bh Bi yv hc iv j Oo W) (hJ : ∀ k O X Y, J k O X → Keep (fun b => (b < S ∧ ¬ False) ∨ O b) X Y → J k O Y) (hn : n0 ≤ S) (hB : Bx < S)
    (hK : Keep C W W') (c1 : ∀ b, b < S → C b) (c2 : ∀ b, Oo b → C b) (cy : C By) (ch : C Bh) (ci : C Bi) : StandsSt n0 Bx w0 cs J S By Bh Bi yv hc iv j Oo W' :=
  { h with
    j := hJ _ _ _ _ h.j (hK.mono fun b _ hb => hb.elim (fun h => c1 b h.1) (c2 b))
    v := standsV_keep h.v hK (fun k hk => c1 k (by omega)) (c1 _ hB)
    s := Nat.le_trans h.s hK.size
    o := fun b hb => Nat.lt_of_lt_of_le (h.o b hb) hK.size
    y := hK.heap h.y cy
    h := hK.heap h.h ch
    i := hK.heap h.i ci }

set_option maxRecDepth 100000 in
set_option maxHeartbeats 2000000 in
theorem stands1_iter (n0 Bx : Nat) (w0 : World) (r : RuleD) (sh sb : Value) (hsh : TermsIn n0 w0 sh r.head.args) (hsb : LitsIn n0 w0 sb r.body) (hn0 : n0 ≤ w0.heap.size) (hBx : Bx < w0.heap.size + 1) :
    Iter Try.prog 35 #[.pointer (some ⟨Bx, 0, none⟩)] (fun k => #[.int .i64 (r.stands.getD k default).1, .string (r.stands.getD k default).2]) r.stands.length (standsV n0 Bx w0 (ruleCells r sh sb).toArray) (fun _ => False) := by
  intro l J Jx O0 W hl hO0 hV hJ hJx hY h0
  refine calls_of Try.func35 rfl ?_
  simp only [Try.ntmps35, List.size_toArray, List.length_cons, List.length_nil, Nat.reduceAdd, Nat.reduceSub, Array.replicate_succ, Array.replicate_zero, List.push_toArray, List.append_toArray, List.nil_append, List.cons_append]
  obtain ⟨ab, capb, rfl, hlen, hcap, hel⟩ := id hsb
  obtain ⟨ah, caph, rfl, hlenh, hcaph, helh⟩ := id hsh
  have hBxS : Bx < W.heap.size := heap_lt hV.1
  have hn0S : n0 ≤ W.heap.size := Nat.le_trans hn0 hV.2.size
  have c0 := cells_of_block hV.1 0 _ rfl
  have c1 := cells_of_block hV.1 1 _ rfl
  have c2 := cells_of_block hV.1 2 _ rfl
  simp only [Nat.zero_add, Nat.add_zero] at c0 c1 c2
  obtain ⟨rc, hrc⟩ : ∃ rc, rc = (ruleCells r (.slice ah r.head.args.length caph) (.slice ab r.body.length capb)).toArray := ⟨_, rfl⟩
  rw [← hrc] at hV hY ⊢
  have XhO0 := Lib.hid hO0
  have XhV := Lib.hid hV
  have XhJ := Lib.hid hJ
  have XhJx := Lib.hid hJx
  have XhY := Lib.hid hY
  have Xhel := Lib.hid hel
  have Xhelh := Lib.hid helh
  have Xhsb := Lib.hid hsb
  have Xhsh := Lib.hid hsh
  have Xh0 := Lib.hid h0
  have Xhrc := Lib.hid hrc
  clear hO0 hV hJ hJx hY hel helh hsb hsh h0 hrc
  gi_wp2
  refine wpIn_loop (fun a' wr => ∃ (u0 u1 u2 u3 u4 u5 u6 u7 u8 u9 u10 u11 u12 u13 u14 u15 u16 u17 u18 u19 u20 u21 u22 u23 u24 u25 u26 u27 u28 u29 u30 u31 u32 u33 u34 u35 u36 u37 u38 : Value) (ds : List Deferred), (∃ (i : Nat) (Oo : Nat → Prop) (Bi : Nat) (Ds : List Nat), i ≤ r.lits.length ∧ u1 = .pointer (some ⟨Bx, 0, none⟩) ∧ u2 = .pointer (some ⟨W.heap.size, 0, none⟩) ∧ u3 = .pointer (some ⟨W.heap.size + 1, 0, none⟩) ∧ u4 = .pointer (some ⟨Bi, 0, none⟩) ∧
      StandsSt n0 Bx w0 rc J W.heap.size W.heap.size (W.heap.size + 1) Bi (.func (.yield l) #[] #[]) (litCells r.headLit (.slice ah r.head.args.length caph)).toArray ((i : Int) - 1) (r.off i) Oo wr ∧ ds = marks Ds ∧ Ds.Nodup ∧ (∀ D, D ∈ Ds → W.heap.size ≤ D) ∧ MarksAt Ds Oo wr) ∧
      a' = { tmps := #[u0, u1, u2, u3, u4, u5, u6, u7, u8, u9, u10, u11, u12, u13, u14, u15, u16, u17, u18, u19, u20, u21, u22, u23, u24, u25, u26, u27, u28, u29, u30, u31, u32, u33, u34, u35, u36, u37, u38], defers := ds }) (fun a' wr => (r.body.length + 1 - boxInt wr (a'.tmps.getD 4 undef)).toNat) ?atStart ?round
  case atStart =>
    refine ⟨_, _, _, _, _, _, _, _, _, _, _, _, _, _, _, _, _, _, _, _, _, _, _, _, _, _, _, _, _, _, _, _, _, _, _, _, _, _, _, [], ⟨0, O0, W.heap.size + 1 + 1, [], by omega, rfl, rfl, rfl, rfl, ?_, rfl, List.nodup_nil, by simp, by simp [MarksAt]⟩, rfl⟩
    have k1 : Keep (fun _ => True) W (((W.alloc (Obj.cells #[Value.func (Fn.yield l) #[] #[]] 88)).alloc (.cells (litCells r.headLit (.slice ah r.head.args.length caph)).toArray 37)).alloc (.cells #[.int .i64 (((0 : Nat) : Int) - 1)] 3)) :=
      ((Keep.alloc _ _ _).trans (Keep.alloc _ _ _)).trans (Keep.alloc _ _ _)
    have n1 := new_block W (Obj.cells #[Value.func (Fn.yield l) #[] #[]] 88)
    have n2 := new_block (W.alloc (Obj.cells #[Value.func (Fn.yield l) #[] #[]] 88)) (.cells (litCells r.headLit (.slice ah r.head.args.length caph)).toArray 37)
    have n3 := new_block ((W.alloc (Obj.cells #[Value.func (Fn.yield l) #[] #[]] 88)).alloc (.cells (litCells r.headLit (.slice ah r.head.args.length caph)).toArray 37)) (.cells #[.int .i64 (((0 : Nat) : Int) - 1)] 3)
    simp only [World.size_alloc] at n2 n3
    have ho := XhO0.out
    exact { j := XhJ.out _ _ _ _ Xh0.out (k1.mono fun _ _ _ => trivial), v := standsV_keep XhV.out k1 (fun _ _ => trivial) trivial, s := k1.size, o := fun b hb => Nat.lt_of_lt_of_le (ho b hb) k1.size,
            y := old_block (old_block n1 _) _, h := old_block n2 _, i := n3, ny := fun h => by have := ho _ h; omega, nh := fun h => by have := ho _ h; omega, ni := fun h => by have := ho _ h; omega, sy := by omega, sh := by omega, si := by omega }
  case round =>
    rintro a' wr ⟨u0, u1, u2, u3, u4, u5, u6, u7, u8, u9, u10, u11, u12, u13, u14, u15, u16, u17, u18, u19, u20, u21, u22, u23, u24, u25, u26, u27, u28, u29, u30, u31, u32, u33, u34, u35, u36, u37, u38, ds, ⟨i, Oo, Bi, Ds, hi, rfl, rfl, rfl, rfl, hst, rfl, hDn, hDs, hDm⟩, rfl⟩
    have hDlt : ∀ D, D ∈ Ds → D < wr.heap.size := fun D hD => heap_lt (hDm D hD).2
    have XhDn := Lib.hid hDn
    have XhDs := Lib.hid hDs
    have XhDm := Lib.hid hDm
    have XhDlt := Lib.hid hDlt
    clear hDn hDs hDm hDlt
    have b1 := box_cell hst.i
    have b1f := box_free hst.i 0
    have b2 := box_cell hst.y
    have b3 := cells_of_block hst.h
    have e1 : wr.cell? ⟨Bx, 2, none⟩ = some (.slice ab r.body.length capb) := by
      have := hst.v.1
      rw [Xhrc.out] at this
      exact cells_of_block this 2 _ rfl
    have hbs := hst.s
    have hbi := heap_lt hst.i
    clear c0 c1 c2
    by_cases hlt : i < r.lits.length
    · have hcase : ∃ L sa, r.lits[i]? = some L ∧ TermsIn n0 w0 sa L.atom.args ∧ ((i = 0 ∧ L = r.headLit ∧ sa = .slice ah r.head.args.length caph) ∨ (∃ m, i = m + 1 ∧ ∃ b off, ab = some ⟨b, off, none⟩ ∧ b < n0 ∧ CellsE w0 b (off + m * 7) (litCells L sa))) := by
        cases i with
        | zero => exact ⟨r.headLit, _, rfl, Xhsh.out, .inl ⟨rfl, rfl, rfl⟩⟩
        | succ m =>
          have hm : m < r.body.length := by simp [RuleD.lits] at hlt; omega
          obtain ⟨b, off, ha, hb, sa, hcl, hts⟩ := Xhel.out m _ (List.getElem?_eq_getElem hm)
          exact ⟨r.body[m], sa, by simp [RuleD.lits, hm], hts, .inr ⟨m, rfl, b, off, ha, hb, hcl⟩⟩
      obtain ⟨L, sa, hLi, hsa, hcase⟩ := hcase
      have hlt2 : (i : Int) - 1 < r.body.length := by simp [RuleD.lits] at hlt; omega
      have hoff := off_succ hLi
      have hlast : L.atom.args.length < 18446744073709551616 := by obtain ⟨_, cap, _, h1, h2, _⟩ := hsa; omega
      obtain ⟨aa, caps, rfl, hlens, hcaps, hels⟩ := id hsa
      have Xhst := Lib.hid hst
      have XhLi := Lib.hid hLi
      have Xhsa := Lib.hid hsa
      have Xhoff := Lib.hid hoff
      have Xhels := Lib.hid hels
      clear hst hLi hsa hoff hels
      clear hlt
      rcases hcase with ⟨hi0, hL, hs⟩ | ⟨m, him, b, off, rfl, hb, hcl⟩
      case' inl =>
        have d0 : wr.cell? ⟨W.heap.size + 1, 0, none⟩ = some (.int .i64 L.kind) := by rw [hL]; exact b3 0 _ rfl
        have d1 : wr.cell? ⟨W.heap.size + 1, 1, none⟩ = some (.string L.atom.pred) := by rw [hL]; exact b3 1 _ rfl
        have d2 : wr.cell? ⟨W.heap.size + 1, 2, none⟩ = some (.slice aa L.atom.args.length caps) := by rw [hs]; exact b3 2 _ rfl
        have d3 : wr.cell? ⟨W.heap.size + 1, 3, none⟩ = some (.bool L.left.var) := by rw [hL]; exact b3 3 _ rfl
        have d4 : wr.cell? ⟨W.heap.size + 1, 4, none⟩ = some (.string L.left.text) := by rw [hL]; exact b3 4 _ rfl
        have d5 : wr.cell? ⟨W.heap.size + 1, 5, none⟩ = some (.bool L.right.var) := by rw [hL]; exact b3 5 _ rfl
        have d6 : wr.cell? ⟨W.heap.size + 1, 6, none⟩ = some (.string L.right.text) := by rw [hL]; exact b3 6 _ rfl
        have b1' : wr.cell? ⟨Bi, 0, none⟩ = some (.int .i64 (-1)) := by rw [b1, hi0]; rfl
        have hlt3 : (-1 : Int) < r.body.length := by omega
        clear b3 hL hs b1 hi0 hlt2
      case' inr =>
        have g : ∀ j v, (litCells L (.slice aa L.atom.args.length caps))[j]? = some v → wr.cell? ⟨b, off + m * 7 + j, none⟩ = some v := fun j v h => Xhst.out.v.2.cell (hcl j v h) hb
        have d0 := g 0 _ rfl
        have d1 := g 1 _ rfl
        have d2 := g 2 _ rfl
        have d3 := g 3 _ rfl
        have d4 := g 4 _ rfl
        have d5 := g 5 _ rfl
        have d6 := g 6 _ rfl
        simp only [Nat.add_zero] at d0
        have g0 := b3 0 _ rfl
        have g1 := b3 1 _ rfl
        have g2 := b3 2 _ rfl
        have g3 := b3 3 _ rfl
        have g4 := b3 4 _ rfl
        have g5 := b3 5 _ rfl
        have g6 := b3 6 _ rfl
        simp only [Nat.zero_add, Nat.add_zero] at g0 g1 g2 g3 g4 g5 g6
        have b1' : wr.cell? ⟨Bi, 0, none⟩ = some (.int .i64 (m : Int)) := by rw [b1, him]; congr 2; omega
        have hlt3 : (m : Int) < r.body.length := by omega
        have hm0 : (0 : Int) ≤ m := by omega
        have hbw : b < wr.heap.size := by omega
        have hBxw : Bx < wr.heap.size := by omega
        clear b3 g hcl b1 him hlt2
      all_goals
        gi_wp2
        refine ⟨trivial, rfl, (callsIn_wide.2 (terms_any L _ _)).mono ?_⟩
        rintro e w' ⟨rfl, rfl⟩
        gi_wp2
        refine wpIn_abs (fun Wr => Keep (fun _ => True) wr Wr ∧ Wr.heap.size = wr.heap.size + 2 ∧ Wr.heap[wr.heap.size + 1]? = some (.cells (litCells L (.slice aa L.atom.args.length caps)).toArray 37 (0, 0))) ⟨(Keep.alloc _ _ _).trans (Keep.alloc _ _ _), by simp, by simpa using new_block (wr.alloc _) _⟩ ?_
        rintro Wr ⟨kW, sW, bW⟩
        have hstW := Xhst.out.keep XhJ.out hn0S hBxS kW (fun _ _ => trivial) (fun _ _ => trivial) trivial trivial trivial
        refine range_outer (gf := 41) (lb := #[.pointer (some ⟨wr.heap.size + 1, 0, none⟩)]) rfl (enters Try.func41 (by kernel_rfl) rfl) (terms1_iter n0 (wr.heap.size + 1) w0 L _ Xhsa.out hn0) (fun _ => rfl) (fun _ h => h.elim)
          ⟨bW, hstW.v.2⟩ (fun X Y hv hK => termsV_keep hv hK (fun k hk => by omega) (by omega))
          (fun k O X => ∃ Oo, StandsSt n0 Bx w0 rc J W.heap.size W.heap.size (W.heap.size + 1) Bi (.func (.yield l) #[] #[]) (litCells r.headLit (.slice ah r.head.args.length caph)).toArray ((i : Int) - 1) (r.off i + L.cnt k) Oo X ∧ (∀ b, Oo b → b < Wr.heap.size ∨ O b) ∧ ¬ Oo (wr.heap.size + 1) ∧ MarksAt Ds Oo X)
          (fun c k O X => IsRet c ∧ ∃ j Oo, j < r.stands.length ∧ Jx j Oo X ∧ standsV n0 Bx w0 rc X ∧ (∀ b, Oo b → b < Wr.heap.size ∨ O b) ∧ MarksAt Ds Oo X) ?hI ?hIx ?h0 ?round ?done ?stop
        case hI =>
          rintro k O X Y ⟨Oo, h1, h2, h3, h4⟩ hK
          exact ⟨Oo, h1.keep XhJ.out hn0S hBxS hK (fun b hb => .inl ⟨by omega, fun h => h⟩) (fun b hb => (h2 b hb).elim (fun h => .inl ⟨h, fun h => h⟩) .inr) (.inl ⟨by omega, fun h => h⟩) (.inl ⟨by omega, fun h => h⟩) (.inl ⟨by omega, fun h => h⟩), h2, h3,
            h4.keep hK (fun D hD => .inl ⟨by have := XhDlt.out D hD; omega, fun h => h⟩) (fun _ _ h => h)⟩
        case hIx =>
          rintro c k O X Y ⟨hc, j, Oo, hj, h1, h2, h3, h4⟩ hK
          exact ⟨hc, j, Oo, hj, XhJx.out _ _ _ _ h1 (hK.mono fun b _ hb => hb.elim (fun h => .inl ⟨by have := h.1; omega, fun h => h⟩) (fun h => (h3 b h).elim (fun h => .inl ⟨h, fun h => h⟩) .inr)), standsV_keep h2 hK (fun k hk => .inl ⟨by omega, fun h => h⟩) (.inl ⟨by omega, fun h => h⟩), h3,
            h4.keep hK (fun D hD => .inl ⟨by have := XhDlt.out D hD; omega, fun h => h⟩) (fun _ _ h => h)⟩
        case h0 =>
          refine ⟨Oo, ?_, fun b hb => .inl (by have := Xhst.out.o b hb; omega), fun h => by have := Xhst.out.o _ h; omega, XhDm.out.keep kW (fun _ _ => trivial) (fun _ _ h => h)⟩
          rw [cnt_zero]
          exact hstW
        case round =>
          intro lr k O X hBl hlX hOl hk hI hV hsz
          obtain ⟨Oo, hI, hO1, hO2, hO3⟩ := hI
          obtain ⟨t, ht⟩ : ∃ t, L.terms[k]? = some t := ⟨_, List.getElem?_eq_getElem hk⟩
          have ht' : L.terms.getD k default = t := by simp [List.getD, ht]
          clear b1' b2 b1f e1 d0 d1 d2 d3 d4 d5 d6 hlt3 hstW kW
          try clear g0 g1 g2 g3 g4 g5 g6 hm0 hbw hBxw
          simp only [ht', TermD.val]
          have Xht := Lib.hid ht
          have XhI := Lib.hid hI
          have XhO1 := Lib.hid hO1
          have XhO2 := Lib.hid hO2
          have XhO3 := Lib.hid hO3
          have XhV := Lib.hid hV
          have XhOl := Lib.hid hOl
          have Xht' := Lib.hid ht'
          have Xhk := Lib.hid hk
          have XbW := Lib.hid bW
          clear ht hI hO1 hO2 hO3 hV hOl ht' hk bW
          gi_wp2
          refine ⟨Keep.alloc _ _ _, fun Y hY hYs hYl => ?_⟩
          have hXY : Keep (fun b => b ≠ lr) X Y := (Keep.alloc _ X _).trans hY
          have nt := hY.heap (new_block X (.cells #[.bool t.var, .string t.text] 35)) (show X.heap.size ≠ lr by omega)
          have hIY := XhI.out.keep XhJ.out hn0S hBxS hXY (fun b hb => by omega) (fun b hb e => (XhO1.out b hb).elim (fun h => by omega) (fun h => XhOl.out (e ▸ h))) (by omega) (by omega) (by omega)
          have hMY := XhO3.out.keep (O' := Oo) hXY (fun D hD => by have := XhDlt.out D hD; omega) (fun _ _ h => h)
          have hVY := termsV_keep XhV.out hXY (fun k hk => by omega) (by omega)
          have f1 := box_cell hIY.y
          have f2 := box_cell hIY.i
          have f3 := cells_of_block nt 0 _ rfl
          have f4 := cells_of_block nt 1 _ rfl
          simp only [Nat.zero_add, Nat.add_zero] at f3 f4
          have hYs' : Y.heap.size = X.heap.size + 1 := by simpa using hYs
          have hcnt := cnt_succ Xht.out
          clear hY hYs hYl
          by_cases hv : t.var = true
          · have hst2 := stands_at (c := L.cnt k) XhLi.out (List.getElem?_eq_some_iff.1 (uses_at Xht.out hv)).1
            have hu := (List.getElem?_eq_some_iff.1 (uses_at Xht.out hv)).2
            rw [hu] at hst2
            have hlt := (List.getElem?_eq_some_iff.1 hst2).1
            have hst3 : r.stands.getD (r.off i + L.cnt k) default = ((i : Int) - 1, t.text) := by simp [List.getD, hst2]
            obtain ⟨fn, tmps, assign, body, hy, hR⟩ := XhY.out (r.off i + L.cnt k) Oo Y hlt hIY.j hIY.v hIY.s
            rw [hst3] at hy
            simp only [hv, if_true] at hcnt
            have XhR := Lib.hid hR
            have XhIY := Lib.hid hIY
            have XhMY := Lib.hid hMY
            have XhVY := Lib.hid hVY
            have XhXY := Lib.hid hXY
            have Xhcnt := Lib.hid hcnt
            have Xnt := Lib.hid nt
            have Xhu := Lib.hid hu
            have Xhst2 := Lib.hid hst2
            have Xhlt := Lib.hid hlt
            have Xhst3 := Lib.hid hst3
            clear hR hIY hMY hVY hXY hcnt nt hu hst2 hlt hst3
            gi_wp2
            refine ⟨rfl, RoundIn.mono (F := inR lr) XhR.out ?_⟩
            rintro e Z ⟨O', hA1, hA2, hKZ, hVZ, hJZ⟩
            have hsZ := hKZ.size
            have hnew : ∀ b, O' b → b < Y.heap.size → Oo b := fun b hb hlt => (hA2 b hb).elim id (fun h => by omega)
            have hOZ : ∀ b, O' b → b < Wr.heap.size ∨ O b ∨ (X.heap.size ≤ b ∧ O' b) := fun b hb => (hA2 b hb).elim (fun h => (XhO1.out b h).imp id .inl) (fun h => .inr (.inr ⟨by omega, hb⟩))
            have hkp : Keep (fun b => Wr.heap.size ≤ b ∧ b < X.heap.size ∧ ¬ O b) Y Z := hKZ.mono (fun b _ h => ⟨by omega, fun ho => (XhO1.out b ho).elim (fun h' => by have := h.1; omega) h.2.2⟩)
            have hMZ := XhMY.out.keep (O' := O') hKZ (fun D hD => ⟨XhDs.out D hD, (XhMY.out D hD).1⟩) (fun D hD h ho => h (hnew D ho (by have := heap_lt (XhMY.out D hD).2; omega)))
            have hVt : termsV n0 (wr.heap.size + 1) w0 (litCells L (.slice aa L.atom.args.length caps)).toArray Z := ⟨hKZ.heap XhVY.out.1 ⟨by omega, XhO2.out⟩, hVZ.2⟩
            have hnn : ¬ O' (wr.heap.size + 1) := fun h => XhO2.out (hnew _ h (by omega))
            have hII := XhIY.out
            have hiy := heap_lt hII.y
            have hih := heap_lt hII.h
            have hii := heap_lt hII.i
            rcases hJZ with ⟨rfl, hJZ⟩ | ⟨rfl, hJZ⟩
            · have hSt : StandsSt n0 Bx w0 rc J W.heap.size W.heap.size (W.heap.size + 1) Bi (.func (.yield l) #[] #[]) (litCells r.headLit (.slice ah r.head.args.length caph)).toArray ((i : Int) - 1) (r.off i + L.cnt (k + 1)) O' Z :=
                { j := by rw [Xhcnt.out]; exact hJZ, v := hVZ, s := by omega, o := fun b hb => (hA2 b hb).elim (fun h => by have := hII.o b h; omega) (fun h => h.2),
                  y := hKZ.heap hII.y ⟨hII.sy, hII.ny⟩, h := hKZ.heap hII.h ⟨hII.sh, hII.nh⟩, i := hKZ.heap hII.i ⟨hII.si, hII.ni⟩,
                  ny := fun h => hII.ny (hnew _ h hiy), nh := fun h => hII.nh (hnew _ h hih), ni := fun h => hII.ni (hnew _ h hii), sy := hII.sy, sh := hII.sh, si := hII.si }
              have hfin : bodyEnd Wr.heap.size X.heap.size (termsV n0 (wr.heap.size + 1) w0 (litCells L (.slice aa L.atom.args.length caps)).toArray) O Y Z (fun O'' => ∃ Oo, StandsSt n0 Bx w0 rc J W.heap.size W.heap.size (W.heap.size + 1) Bi (.func (.yield l) #[] #[]) (litCells r.headLit (.slice ah r.head.args.length caph)).toArray ((i : Int) - 1) (r.off i + L.cnt (k + 1)) Oo Z ∧ (∀ b, Oo b → b < Wr.heap.size ∨ O'' b) ∧ ¬ Oo (wr.heap.size + 1) ∧ MarksAt Ds Oo Z) :=
                ⟨fun b => O b ∨ (X.heap.size ≤ b ∧ O' b), fun b h => .inl h, fun b h => h.imp id (fun h => ⟨h.1, hSt.o b h.2⟩), hkp, hVt, O', hSt, hOZ, hnn, hMZ⟩
              clear hSt hMZ hVt hnn hkp hOZ hnew hJZ hII hKZ hVZ hA1 hA2
              have Xhfin := Lib.hid hfin
              clear hfin
              gi_wp2
              exact Xhfin.out
            · have hfin : bodyEnd Wr.heap.size X.heap.size (termsV n0 (wr.heap.size + 1) w0 (litCells L (.slice aa L.atom.args.length caps)).toArray) O Y Z (fun O'' => IsRet .ret ∧ ∃ j Oo, j < r.stands.length ∧ Jx j Oo Z ∧ standsV n0 Bx w0 rc Z ∧ (∀ b, Oo b → b < Wr.heap.size ∨ O'' b) ∧ MarksAt Ds Oo Z) :=
                ⟨fun b => O b ∨ (X.heap.size ≤ b ∧ b < Z.heap.size ∧ O' b), fun b h => .inl h, fun b h => h.imp id (fun h => ⟨h.1, h.2.1⟩), hkp, hVt, rfl, _, O', Xhlt.out, hJZ, hVZ, fun b hb => (hA2 b hb).elim (fun h => (XhO1.out b h).imp id .inl) (fun h => .inr (.inr ⟨by omega, h.2, hb⟩)), hMZ⟩
              clear hMZ hVt hnn hkp hOZ hnew hJZ hII hKZ hVZ hA1 hA2
              have Xhfin := Lib.hid hfin
              clear hfin
              gi_wp2
              exact Xhfin.out
          · have hv' : t.var = false := by simpa using hv
            simp only [hv', if_false, Nat.add_zero, Bool.false_eq_true] at hcnt
            have hfin : bodyEnd Wr.heap.size X.heap.size (termsV n0 (wr.heap.size + 1) w0 (litCells L (.slice aa L.atom.args.length caps)).toArray) O Y Y (fun O'' => ∃ Oo, StandsSt n0 Bx w0 rc J W.heap.size W.heap.size (W.heap.size + 1) Bi (.func (.yield l) #[] #[]) (litCells r.headLit (.slice ah r.head.args.length caph)).toArray ((i : Int) - 1) (r.off i + L.cnt (k + 1)) Oo Y ∧ (∀ b, Oo b → b < Wr.heap.size ∨ O'' b) ∧ ¬ Oo (wr.heap.size + 1) ∧ MarksAt Ds Oo Y) :=
              ⟨O, fun b h => h, fun b h => .inl h, Keep.refl _ _, hVY, Oo, by rw [hcnt]; exact hIY, XhO1.out, XhO2.out, hMY⟩
            clear hv hIY hMY hVY hXY hcnt nt
            have Xhfin := Lib.hid hfin
            clear hfin
            gi_wp2
            refine ⟨fun _ h => (by cases h), ?_⟩
            gi_wp2
            exact Xhfin.out
        case done =>
          rintro D O Wd hD hOD hWD hsd ⟨Oo, hI, hO1, hO2, hO3⟩ hV
          have f2 := box_cell hI.i
          have hbd := heap_lt hI.i
          have hbi2 := hI.si
          rw [cnt_all, ← Xhoff.out] at hI
          have hDm : MarksAt (D :: Ds) Oo Wd := fun E hE => by
            rcases List.mem_cons.1 hE with rfl | hE
            · exact ⟨fun h => (hO1 _ h).elim (fun h => by omega) hOD, hWD⟩
            · exact hO3 E hE
          have hDn : (D :: Ds).Nodup := List.nodup_cons.2 ⟨fun h => by have := XhDlt.out D h; omega, XhDn.out⟩
          have hDs : ∀ E, E ∈ D :: Ds → W.heap.size ≤ E := fun E hE => by
            rcases List.mem_cons.1 hE with rfl | hE
            · omega
            · exact XhDs.out E hE
          have hlit := (List.getElem?_eq_some_iff.1 XhLi.out).1
          clear b1' b2 b1f e1 d0 d1 d2 d3 d4 d5 d6 hlt3 hstW kW XhDn XhDs XhDm
          try clear g0 g1 g2 g3 g4 g5 g6 hm0 hbw hBxw
          have XhI := Lib.hid hI
          have XhO1 := Lib.hid hO1
          have XhO2 := Lib.hid hO2
          have XhO3 := Lib.hid hO3
          have XhV := Lib.hid hV
          have XhWD := Lib.hid hWD
          have XhDm := Lib.hid hDm
          have XhDn := Lib.hid hDn
          have XhDs := Lib.hid hDs
          have Xhlit := Lib.hid hlit
          clear hI hO1 hO2 hO3 hV hWD hDm hDn hDs hlit
          have hil : (i : Int) ≤ 1099511627776 := by have := Xhlit.out; simp [RuleD.lits] at this; omega
          have hil0 : (0 : Int) ≤ i := by omega
          gi_wp2
          refine ⟨⟨_, _, _, _, _, _, _, _, _, _, _, _, _, _, _, _, _, _, _, _, _, _, _, _, _, _, _, _, _, _, _, _, _, _, _, _, _, _, _, _, ⟨i + 1, Oo, Wd.heap.size, D :: Ds, by have := Xhlit.out; omega, rfl, rfl, rfl, rfl, ?_, rfl, XhDn.out, XhDs.out, XhDm.out.keep (Keep.alloc _ _ _) (fun _ _ => trivial) (fun _ _ h => h)⟩, rfl⟩, ?_⟩
          · have hI2 := XhI.out.keep (C := fun _ => True) XhJ.out hn0S hBxS (Keep.alloc _ Wd (.cells #[.int .i64 (i : Int)] 3)) (fun _ _ => trivial) (fun _ _ => trivial) trivial trivial trivial
            have hn := new_block Wd (.cells #[.int .i64 (i : Int)] 3)
            have he : ((i + 1 : Nat) : Int) - 1 = i := by omega
            exact { hI2 with i := by rw [he]; exact hn, ni := fun h => by have := XhI.out.o _ h; omega, si := by omega }
          · have h1 := boxInt_eq (w := wr) (q := ⟨Bi, 0, none⟩) (box_cell Xhst.out.i)
            have h2 := boxInt_eq (w := Wd.alloc (.cells #[.int .i64 (i : Int)] 3)) (q := ⟨Wd.heap.size, 0, none⟩) (box_cell (new_block Wd _))
            have := Xhlit.out
            simp [RuleD.lits] at this
            simp only [Array.getD_eq_getD_getElem?, List.getElem?_toArray, List.getElem?_cons_succ, List.getElem?_cons_zero, Option.getD_some, h1, h2]
            omega
        case stop =>
          rintro D c k O Wd hD hOD hWD hsd hk ⟨hret, j, Oo, hj, hJ1, hV1, hO1, hO3⟩ hV
          obtain rfl : c = .ret := hret
          have hDm : MarksAt (D :: Ds) Oo Wd := fun E hE => by
            rcases List.mem_cons.1 hE with rfl | hE
            · exact ⟨fun h => (hO1 _ h).elim (fun h => by omega) hOD, hWD⟩
            · exact hO3 E hE
          have hDn : (D :: Ds).Nodup := List.nodup_cons.2 ⟨fun h => by have := XhDlt.out D h; omega, XhDn.out⟩
          have hDs : ∀ E, E ∈ D :: Ds → W.heap.size ≤ E := fun E hE => by
            rcases List.mem_cons.1 hE with rfl | hE
            · omega
            · exact XhDs.out E hE
          clear b1' b2 b1f e1 d0 d1 d2 d3 d4 d5 d6 hlt3 hstW kW XhDn XhDs XhDm
          try clear g0 g1 g2 g3 g4 g5 g6 hm0 hbw hBxw
          have XhJ1 := Lib.hid hJ1
          have XhO1 := Lib.hid hO1
          have XhV := Lib.hid hV
          have XhV1 := Lib.hid hV1
          have XhWD := Lib.hid hWD
          have XhDm := Lib.hid hDm
          have XhDn := Lib.hid hDn
          have XhDs := Lib.hid hDs
          clear hJ1 hO1 hV hV1 hWD hDm hDn hDs
          gi_wp2
          refine leaves_marks (D :: Ds) _ XhDn.out (fun E hE => (XhDm.out E hE).2) (fun w' hK hs => leaves_nil (results_none rfl _ _ _) ?_)
          exact ⟨⟨_, rfl⟩, by omega, standsV_keep XhV1.out hK (fun b hb h => by have := XhDs.out b h; omega) (fun h => by have := XhDs.out _ h; omega), Oo, .inr ⟨j, hj, XhJx.out _ _ _ _ XhJ1.out (hK.mono fun b _ hb => hb.elim (fun h h' => by have := XhDs.out b h'; omega) (fun h h' => (XhDm.out b h').1 h))⟩⟩
    · have hie : i = r.lits.length := by omega
      subst hie
      have hst2 := hst
      rw [off_all] at hst2
      have hge : ¬ (((r.lits.length : Nat) : Int) - 1 < r.body.length) := by simp [RuleD.lits]
      have hil : (r.lits.length : Int) ≤ 1099511627777 := by simp [RuleD.lits]; omega
      clear hlt hi
      have Xhst := Lib.hid hst
      have Xhst2 := Lib.hid hst2
      have Xb3 := Lib.hid b3
      clear hst hst2 b3
      gi_wp2
      refine leaves_marks Ds _ XhDn.out (fun E hE => (XhDm.out E hE).2) (fun w' hK hs => leaves_nil (results_none rfl _ _ _) ?_)
      exact ⟨⟨_, rfl⟩, by omega, standsV_keep Xhst2.out.v hK (fun b hb h => by have := XhDs.out b h; omega) (fun h => by have := XhDs.out _ h; omega), Oo, .inl (XhJ.out _ _ _ _ Xhst2.out.j (hK.mono fun b _ hb => hb.elim (fun h h' => by have := XhDs.out b h'; omega) (fun h h' => (XhDm.out b h').1 h)))⟩

end Go.Proofs
