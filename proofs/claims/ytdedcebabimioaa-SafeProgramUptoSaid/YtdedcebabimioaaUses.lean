/- inklingref12.args and Uses: the variables of a rule, where they stand. -/
import Derived.Test.YtdedcebabimioaaProg
import Derived.Test.YtdedcebabimioaaStands
import Derived.Test.YtdedcebabimioaaOwn
import Derived.Test.YtdedcebabimioaaCopy
namespace Go.Proofs
open Go.RowKit Go.Ink
set_option linter.unusedVariables false
set_option linter.unusedSimpArgs false
attribute [local go_sem] Oper.semAt_some

def useCells (x : Int × ByteArray) : List Value := [.int .i64 x.1, .string x.2]
def UseE (w : World) (b o : Nat) (x : Int × ByteArray) : Prop := w.cell? ⟨b, o, none⟩ = some (.int .i64 x.1) ∧ w.cell? ⟨b, o + 1, none⟩ = some (.string x.2)
abbrev UsesIn (n : Nat) (w : World) (v : Value) (us : List (Int × ByteArray)) : Prop := SliceIn n w 2 UseE v us
theorem uses_keep {n : Nat} {w w' : World} {v : Value} {us : List (Int × ByteArray)} (h : UsesIn n w v us) {m : Nat} (hK : Keep (fun k => k < m) w w') (hm : n ≤ m) : UsesIn n w' v us :=
  h.mono fun _ _ _ hb h => ⟨hK.cell h.1 (Nat.lt_of_lt_of_le hb hm), hK.cell h.2 (Nat.lt_of_lt_of_le hb hm)⟩
theorem own_uses {w : World} {base n : Nat} {e : TypeId} {v : Value} {us : List (Int × ByteArray)} (h : w.ownsRow base e 2 v n (us.flatMap useCells)) (hn : n = us.length) (hb : us.length ≤ 1073741824) : UsesIn w.heap.size w v us :=
  own_slice h us hn hb UseE fun b k t ht hc => by
    have hk : ∀ j, j < 2 → (us.flatMap useCells)[k * 2 + j]? = (useCells t)[j]? := fun j hj => flatMap_at _ 2 (fun _ => rfl) _ k j t ht hj
    exact ⟨by have := hc 0 (by omega); rw [hk 0 (by omega)] at this; exact this, by have := hc 1 (by omega); rw [hk 1 (by omega)] at this; exact this⟩

/-- terms that lie in elder memory or in new -/
def TermsOut (n0 B : Nat) (w : World) (v : Value) (ts : List TermD) : Prop :=
  ∃ a cap, v = .slice a ts.length cap ∧ ts.length ≤ 1073741824 ∧ (ts.length ≤ cap ∧ cap ≤ maxLen) ∧ ∀ k x, ts[k]? = some x → ∃ b off, a = some ⟨b, off, none⟩ ∧ (b < n0 ∨ B ≤ b) ∧ b < w.heap.size ∧ TermE w b (off + k * 2) x
theorem terms_out {n0 B : Nat} {w : World} {v : Value} {ts : List TermD} (h : TermsIn n0 w v ts) (hn : n0 ≤ w.heap.size) : TermsOut n0 B w v ts := by
  obtain ⟨a, cap, h1, h2, h3, h4⟩ := h
  exact ⟨a, cap, h1, h2, h3, fun k x hk => by obtain ⟨b, off, e1, e2, e3⟩ := h4 k x hk; exact ⟨b, off, e1, .inl e2, by omega, e3⟩⟩

set_option maxRecDepth 100000 in
theorem args_any (n0 : Nat) (L : LitD) (sa : Value) (w : World) (hsa : TermsIn n0 w sa L.atom.args) (hn : n0 ≤ w.heap.size) :
    Calls Try.prog 36 #[.agg (litCells L sa).toArray] w fun e w' => ∃ v, e = .returned v ∧ Keep (fun k => k < w.heap.size) w w' ∧ TermsOut n0 w.heap.size w' v L.terms := by
  unfold litCells
  obtain ⟨aa, cap, rfl, hlen, hcap, hel⟩ := id hsa
  have Xhsa := Lib.hid hsa
  have Xhel := Lib.hid hel
  clear hsa hel
  go_enter Try.func36, Try.ntmps36
  by_cases h1 : (L.kind == 1) = true
  · have ht : L.terms = L.atom.args := by
      have : L.kind = 1 := by simpa using h1
      simp [LitD.terms, this]
    have Xht := Lib.hid ht
    clear ht
    go_wp2
    go_ret
    refine ⟨_, rfl, Keep.alloc _ _ _, ?_⟩
    rw [Xht.out]
    exact terms_out (terms_keep Xhsa.out (Keep.alloc _ _ _)) (by simp; omega)
  · have h1 : (L.kind == 1) = false := by simpa using h1
    by_cases h2 : (L.kind == 2) = true
    · have ht : L.terms = L.atom.args := by
        have : L.kind = 2 := by simpa using h2
        simp [LitD.terms, this]
      have Xht := Lib.hid ht
      clear ht
      go_wp2
      go_ret
      refine ⟨_, rfl, Keep.alloc _ _ _, ?_⟩
      rw [Xht.out]
      exact terms_out (terms_keep Xhsa.out (Keep.alloc _ _ _)) (by simp; omega)
    · have h2 : (L.kind == 2) = false := by simpa using h2
      by_cases h3 : (L.kind == 3) = true
      · have ht : L.terms = [L.left, L.right] := by
          have : L.kind = 3 := by simpa using h3
          simp [LitD.terms, this]
        have Xht := Lib.hid ht
        clear ht
        go_wp2
        go_ret
        refine ⟨_, rfl, (Keep.alloc _ _ _).trans (Keep.alloc _ _ _), ?_⟩
        rw [Xht.out]
        have nb := new_block (w.alloc (.cells (litCells L (.slice aa L.atom.args.length cap)).toArray 37)) (.cells #[.bool L.left.var, .string L.left.text, .bool L.right.var, .string L.right.text] 35)
        simp only [World.size_alloc] at nb
        refine ⟨_, 2, rfl, by simp, by simp [maxLen], fun k x hk => ⟨w.heap.size + 1, 0, rfl, .inr (by omega), by simp, ?_⟩⟩
        match k, hk with
        | 0, hk => simp at hk; subst hk; exact ⟨cells_of_block nb 0 _ rfl, cells_of_block nb 1 _ rfl⟩
        | 1, hk => simp at hk; subst hk; exact ⟨cells_of_block nb 2 _ rfl, cells_of_block nb 3 _ rfl⟩
      · have h3 : (L.kind == 3) = false := by simpa using h3
        have ht : L.terms = [] := by
          have e1 : ¬ L.kind = 1 := by simpa using h1
          have e2 : ¬ L.kind = 2 := by simpa using h2
          have e3 : ¬ L.kind = 3 := by simpa using h3
          simp [LitD.terms, e1, e2, e3]
        have Xht := Lib.hid ht
        clear ht
        go_wp2
        go_ret
        refine ⟨_, rfl, Keep.alloc _ _ _, ?_⟩
        rw [Xht.out]
        exact ⟨none, 0, rfl, by simp, by simp [maxLen], by simp⟩

theorem own_base2 {w : World} {base base' : Nat} {e : TypeId} {sz : Nat} {v : Value} {n : Nat} {xs : List Value} (h : w.ownsRow base e sz v n xs) (hb : base' ≤ base) : w.ownsRow base' e sz v n xs := h.mono hb
theorem el_use : ElemOf Try.prog 78 81 2 24 := elem_of (z := .agg #[.int .i64 0, .string ⟨#[]⟩]) (by kernel_rfl) (by kernel_rfl) rfl (by decide) (by decide)

/-- the stands behind k terms of literal i -/
def upTo (r : RuleD) (i : Nat) (L : LitD) (k : Nat) : List (Int × ByteArray) := r.stands.take (r.off i + L.cnt k)
theorem upTo_skip {r : RuleD} {i : Nat} {L : LitD} {k : Nat} {t : TermD} (ht : L.terms[k]? = some t) (hv : t.var = false) : upTo r i L (k + 1) = upTo r i L k := by
  unfold upTo
  rw [cnt_succ ht, hv]
  simp
theorem upTo_take {r : RuleD} {i : Nat} {L : LitD} {k : Nat} {t : TermD} (hL : r.lits[i]? = some L) (ht : L.terms[k]? = some t) (hv : t.var = true) : upTo r i L (k + 1) = upTo r i L k ++ [((i : Int) - 1, t.text)] := by
  unfold upTo
  have hu := uses_at ht hv
  have hc := (List.getElem?_eq_some_iff.1 hu).1
  have h := stands_at hL hc
  rw [(List.getElem?_eq_some_iff.1 hu).2] at h
  rw [cnt_succ ht, hv, if_pos rfl, ← Nat.add_assoc, List.take_add_one, h]
  rfl
theorem upTo_all {r : RuleD} {i : Nat} {L L' : LitD} (hL : r.lits[i]? = some L) : upTo r i L L.terms.length = upTo r (i + 1) L' 0 := by
  unfold upTo
  rw [cnt_all, cnt_zero, off_succ hL, Nat.add_zero]
theorem upTo_len (r : RuleD) (i : Nat) (L : LitD) (k : Nat) : (upTo r i L k).length ≤ r.stands.length := by
  unfold upTo
  rw [List.length_take]
  omega

set_option maxRecDepth 100000 in
set_option maxHeartbeats 2000000 in
theorem uses_any (r : RuleD) (sh sb : Value) (w : World) (hr : RuleIn w.heap.size w sh sb r) (hN : r.stands.length ≤ 1073741824) :
    Calls Try.prog 27 #[.agg #[.string r.head.pred, sh, sb]] w fun e w' =>
      ∃ v, e = .returned v ∧ Keep (fun k => k < w.heap.size) w w' ∧ w'.ownsRow w.heap.size 81 2 v r.stands.length (r.stands.flatMap useCells) := by
  obtain ⟨⟨ah, capH, rfl, hlenh, hcaph, helh⟩, ⟨ab, capB, rfl, hlenb, hcapb, helb⟩⟩ := id hr
  have hu0 : upTo r 0 r.headLit 0 = [] := by simp [upTo, RuleD.off, standsOf, LitD.cnt]
  have hht : r.headLit.terms = r.head.args := by simp [RuleD.headLit, LitD.terms]
  have Xhr := Lib.hid hr
  have Xhelh := Lib.hid helh
  have Xhelb := Lib.hid helb
  have XhN := Lib.hid hN
  have Xhu0 := Lib.hid hu0
  have Xhht := Lib.hid hht
  clear hr helh helb hN hu0 hht
  go_enter Try.func27, Try.ntmps27
  go_wp2_with fail
  refine wp_abs (fun W => Keep (fun k => k < w.heap.size) w W ∧ W.heap[w.heap.size]? = some (.cells #[.string r.head.pred, .slice ah r.head.args.length capH, .slice ab r.body.length capB] 27 (0, 0))) ⟨Keep.alloc _ _ _, new_block _ _⟩ ?_
  rintro W0 ⟨k0, n0⟩
  have lw0 := heap_lt n0
  have Xk0 := Lib.hid k0
  have Xn0 := Lib.hid n0
  clear k0 n0
  go_loopw [3, 4] (fun v3 ix wr => ∃ (k : Nat), k ≤ r.head.args.length ∧ ix = .int .i64 k ∧ Keep (fun k => k < w.heap.size + 1) W0 wr ∧ wr.ownsRow (w.heap.size + 1) 81 2 v3 (upTo r 0 r.headLit k).length ((upTo r 0 r.headLit k).flatMap useCells)) (fun _ i _ => r.head.args.length - (intOf i).toNat)
  case atStart => exact ⟨0, by omega, rfl, Keep.refl _ _, by rw [Xhu0.out]; exact World.ownsRow_nil _ _ _ _⟩
  case round =>
    obtain ⟨k, hk, rfl, hK, hO⟩ := hrel
    have hbox := hK.heap Xn0.out (by omega)
    have d0 := cells_of_block hbox 0 _ rfl
    have d1 := cells_of_block hbox 1 _ rfl
    have d2 := cells_of_block hbox 2 _ rfl
    simp only [Nat.zero_add] at d0 d1 d2
    have hszk := hK.size
    by_cases hlt : k < r.head.args.length
    · obtain ⟨t, ht⟩ : ∃ t, r.head.args[k]? = some t := ⟨_, List.getElem?_eq_getElem hlt⟩
      obtain ⟨b, off, rfl, hb, he⟩ := Xhelh.out k t ht
      have kw := Xk0.out.trans (hK.mono fun b _ h => by omega)
      have f0 := kw.cell he.1 hb
      have f1 := kw.cell he.2 hb
      have hbw : b < wr.heap.size := by omega
      have ht' : r.headLit.terms[k]? = some t := by rw [Xhht.out]; exact ht
      clear he kw
      cases hv : t.var with
      | false =>
        have hnx := upTo_skip (r := r) (i := 0) ht' hv
        clear ht ht'
        have XhK := Lib.hid hK
        have XhO := Lib.hid hO
        have Xhnx := Lib.hid hnx
        have Xhbox := Lib.hid hbox
        clear hK hO hnx hbox
        go_wp2_with fail
        go_roundw
        case rel => exact ⟨k + 1, by omega, by go_num, XhK.out, by rw [Xhnx.out]; exact XhO.out⟩
        case measure => simp [intOf]; omega
      | true =>
        have hnx := upTo_take (r := r) (i := 0) rfl ht' hv
        have hul := upTo_len r 0 r.headLit k
        have hNo := XhN.out
        obtain ⟨v', W2, hr2, ho2, hk2, g2, cap2, hv2, hg2, hl2⟩ := app1 el_use 78 hO (useCells (-1, t.text)) rfl (by simp [useCells, Value.oneCell']) (by omega) (by omega)
        subst hv2
        have kW := hK.trans (hk2.mono fun b _ h => own_not hO h)
        have ho3 : W2.ownsRow (w.heap.size + 1) 81 2 (.slice (some ⟨g2, 0, none⟩) ((upTo r 0 r.headLit k).length + 1) cap2) (upTo r 0 r.headLit (k + 1)).length ((upTo r 0 r.headLit (k + 1)).flatMap useCells) := by
          rw [hnx]
          simpa using ho2
        simp only [useCells] at hr2
        clear ht ht' hnx ho2 hk2 hg2 hl2
        have XhK := Lib.hid hK
        have XhO := Lib.hid hO
        have Xhr2 := Lib.hid hr2
        have XkW := Lib.hid kW
        have Xho3 := Lib.hid ho3
        have Xhbox := Lib.hid hbox
        clear hK hO hr2 kW ho3 hbox
        go_wp2_with (at_builtin; refine go_app rfl _ _ _ rfl rfl rfl Xhr2.out ?_)
        go_roundw
        case rel => exact ⟨k + 1, by omega, by go_num, XkW.out, Xho3.out⟩
        case measure => simp [intOf]; omega
    · obtain rfl : k = r.head.args.length := by omega
      have hO1 : wr.ownsRow (w.heap.size + 1) 81 2 u3 (upTo r 1 default 0).length ((upTo r 1 default 0).flatMap useCells) := by
        have h := upTo_all (r := r) (i := 0) (L := r.headLit) (L' := default) rfl
        rw [Xhht.out] at h
        rw [← h]
        exact hO
      have hK1 := Xk0.out.trans (hK.mono fun b _ h => by omega)
      obtain ⟨W1, hW1⟩ : ∃ W1, W1 = wr := ⟨_, rfl⟩
      rw [← hW1] at hK1 hO1 hbox d0 d1 d2 hszk ⊢
      clear hK hO hW1
      have XhK1 := Lib.hid hK1
      have XhO1 := Lib.hid hO1
      have Xhbox := Lib.hid hbox
      clear hK1 hO1 hbox
      go_wp2_with fail
      go_loopw [3, 5] (fun v3 ix wr => ∃ (k : Nat), k ≤ r.body.length ∧ ix = .int .i64 k ∧ Keep (fun k => k < w.heap.size + 1) W1 wr ∧ wr.ownsRow (w.heap.size + 1) 81 2 v3 (upTo r (k + 1) default 0).length ((upTo r (k + 1) default 0).flatMap useCells)) (fun _ i _ => r.body.length - (intOf i).toNat)
      case atStart => exact ⟨0, by omega, rfl, Keep.refl _ _, XhO1.out⟩
      case round =>
        obtain ⟨k, hk, rfl, hK, hO⟩ := hrel
        have hbox2 := hK.heap Xhbox.out (by omega)
        clear d0 d1 d2
        have d0 := cells_of_block hbox2 0 _ rfl
        have d1 := cells_of_block hbox2 1 _ rfl
        have d2 := cells_of_block hbox2 2 _ rfl
        simp only [Nat.zero_add] at d0 d1 d2
        have hszk := hK.size
        have kw := XhK1.out.trans (hK.mono fun b _ h => by omega)
        by_cases hlt : k < r.body.length
        · obtain ⟨L, hL⟩ : ∃ L, r.body[k]? = some L := ⟨_, List.getElem?_eq_getElem hlt⟩
          obtain ⟨b, off, rfl, hb, sa, hcl, hts⟩ := Xhelb.out k L hL
          have g : ∀ j v, (litCells L sa)[j]? = some v → wr.cell? ⟨b, off + k * 7 + j, none⟩ = some v := fun j v h => kw.cell (hcl j v h) hb
          have hlit : r.lits[k + 1]? = some L := by simp [RuleD.lits, hL]
          obtain ⟨aa, caps, rfl, hlens, hcaps, hels⟩ := id hts
          have f0 := g 0 _ rfl
          have f1 := g 1 _ rfl
          have f2 := g 2 _ rfl
          have f3 := g 3 _ rfl
          have f4 := g 4 _ rfl
          have f5 := g 5 _ rfl
          have f6 := g 6 _ rfl
          simp only [Nat.add_zero] at f0
          have hbW : b < wr.heap.size := by omega
          have htw := terms_keep hts kw
          have hd0 : upTo r (k + 1) L 0 = upTo r (k + 1) default 0 := by simp [upTo, cnt_zero]
          clear g hcl hts hels hL
          have XhK := Lib.hid hK
          have XhO := Lib.hid hO
          have Xhbox2 := Lib.hid hbox2
          have Xkw := Lib.hid kw
          have Xhtw := Lib.hid htw
          have Xhlit := Lib.hid hlit
          have Xhd0 := Lib.hid hd0
          clear hK hO hbox2 kw htw hlit hd0
          go_wp2_with fail
          refine (args_any w.heap.size L _ wr Xhtw.out (by omega)).mono ?_
          rintro e W6 ⟨v6, rfl, k6, ht6⟩
          obtain ⟨a6, c6, rfl, hl6, hc6, he6⟩ := id ht6
          have z6 := k6.size
          have hK6 := XhK.out.trans (k6.mono fun b _ h => by omega)
          have hO6 := own_kept XhO.out k6 (fun b hb => (World.ownsRow.lt XhO.out b hb).2)
          have hbox6 := k6.heap Xhbox2.out (by omega)
          clear k6 d0 d1 d2 f0 f1 f2 f3 f4 f5 f6 ht6
          rw [← Xhd0.out] at hO6
          have XhK6 := Lib.hid hK6
          have XhO6 := Lib.hid hO6
          have Xhbox6 := Lib.hid hbox6
          clear hK6 hO6 hbox6
          go_wp2_with fail
          obtain ⟨Wk, hWk⟩ : ∃ Wk, Wk = wr := ⟨_, rfl⟩
          have hOb : ∀ b, Value.ownBlock u3 = some b → b < Wk.heap.size ∨ W6.heap.size ≤ b := fun b hb => .inl (by rw [hWk]; exact (World.ownsRow.lt XhO.out b hb).2)
          rw [← hWk] at he6 z6 hszk
          clear hWk
          have Xhe6 := Lib.hid he6
          clear he6
          go_loopw [3, 7] (fun v3 ix wr => ∃ (j : Nat), j ≤ L.terms.length ∧ ix = .int .i64 j ∧ Keep (fun k => k < w.heap.size + 1 ∨ (Wk.heap.size ≤ k ∧ k < W6.heap.size)) W6 wr ∧ wr.ownsRow (w.heap.size + 1) 81 2 v3 (upTo r (k + 1) L j).length ((upTo r (k + 1) L j).flatMap useCells) ∧ ∀ b, Value.ownBlock v3 = some b → b < Wk.heap.size ∨ W6.heap.size ≤ b) (fun _ i _ => L.terms.length - (intOf i).toNat)
          case atStart => exact ⟨0, by omega, rfl, Keep.refl _ _, XhO6.out, hOb⟩
          case round =>
            obtain ⟨j, hj, rfl, hK7, hO7, hb7⟩ := hrel
            have hsz7 := hK7.size
            by_cases hlt3 : j < L.terms.length
            · obtain ⟨t, ht⟩ : ∃ t, L.terms[j]? = some t := ⟨_, List.getElem?_eq_getElem hlt3⟩
              obtain ⟨b6, o6, rfl, hb6, hb66, he⟩ := Xhe6.out j t ht
              have f0 := hK7.cell he.1 (show b6 < w.heap.size + 1 ∨ (Wk.heap.size ≤ b6 ∧ b6 < W6.heap.size) by omega)
              have f1 := hK7.cell he.2 (show b6 < w.heap.size + 1 ∨ (Wk.heap.size ≤ b6 ∧ b6 < W6.heap.size) by omega)
              have hbw : b6 < wr.heap.size := by omega
              clear he
              cases hv : t.var with
              | false =>
                have hnx := upTo_skip (r := r) (i := k + 1) ht hv
                clear ht
                have XhK7 := Lib.hid hK7
                have XhO7 := Lib.hid hO7
                have Xhnx := Lib.hid hnx
                have Xhb7 := Lib.hid hb7
                clear hK7 hO7 hnx hb7
                go_wp2_with fail
                go_roundw
                case rel => exact ⟨j + 1, by omega, by go_num, XhK7.out, by rw [Xhnx.out]; exact XhO7.out, Xhb7.out⟩
                case measure => simp [intOf]; omega
              | true =>
                have hnx := upTo_take (r := r) (i := k + 1) Xhlit.out ht hv
                have hki : (((k + 1 : Nat) : Int) - 1) = k := by omega
                rw [hki] at hnx
                have hul := upTo_len r (k + 1) L j
                have hNo := XhN.out
                obtain ⟨v', W2, hr2, ho2, hk2, g2, cap2, hv2, hg2, hl2⟩ := app1 el_use 78 hO7 (useCells ((k : Int), t.text)) rfl (by simp [useCells, Value.oneCell']) (by omega) (by omega)
                subst hv2
                have kW : Keep (fun k => k < w.heap.size + 1 ∨ (Wk.heap.size ≤ k ∧ k < W6.heap.size)) W6 W2 := hK7.trans (hk2.mono fun b _ h e => by
                  have h1 := (World.ownsRow.lt hO7 b e.symm).1
                  have h2 := hb7 b e.symm
                  omega)
                have ho3 : W2.ownsRow (w.heap.size + 1) 81 2 (.slice (some ⟨g2, 0, none⟩) ((upTo r (k + 1) L j).length + 1) cap2) (upTo r (k + 1) L (j + 1)).length ((upTo r (k + 1) L (j + 1)).flatMap useCells) := by
                  rw [hnx]
                  simpa using ho2
                have hb8 : ∀ b, Value.ownBlock (.slice (some ⟨g2, 0, none⟩) ((upTo r (k + 1) L j).length + 1) cap2) = some b → b < Wk.heap.size ∨ W6.heap.size ≤ b := fun b hb => by
                  simp only [Value.ownBlock, Option.some.injEq] at hb
                  subst hb
                  rcases hg2 with h | h
                  · exact hb7 _ h
                  · omega
                simp only [useCells] at hr2
                clear ht hnx ho2 hk2 hg2 hl2 hki
                have XhK7 := Lib.hid hK7
                have XhO7 := Lib.hid hO7
                have Xhr2 := Lib.hid hr2
                have XkW := Lib.hid kW
                have Xho3 := Lib.hid ho3
                have Xhb7 := Lib.hid hb7
                have Xhb8 := Lib.hid hb8
                clear hK7 hO7 hr2 kW ho3 hb7 hb8
                go_wp2_with (at_builtin; refine go_app rfl _ _ _ rfl rfl rfl Xhr2.out ?_)
                go_roundw
                case rel => exact ⟨j + 1, by omega, by go_num, XkW.out, Xho3.out, Xhb8.out⟩
                case measure => simp [intOf]; omega
            · obtain rfl : j = L.terms.length := by omega
              have hnx := upTo_all (L' := default) Xhlit.out
              rw [hnx] at hO7
              have hK9 := XhK6.out.trans (hK7.mono fun b _ h => by omega)
              clear hK7 hb7 hnx
              have XhO7 := Lib.hid hO7
              have XhK9 := Lib.hid hK9
              clear hO7 hK9
              go_wp2_with fail
              go_roundw
              case rel => exact ⟨k + 1, by omega, by go_num, XhK9.out, XhO7.out⟩
              case measure => simp [intOf]; omega
        · obtain rfl : k = r.body.length := by omega
          have hall : upTo r (r.body.length + 1) default 0 = r.stands := by
            unfold upTo
            rw [cnt_zero, Nat.add_zero]
            have h : r.body.length + 1 = r.lits.length := by simp [RuleD.lits]
            rw [h, off_all, List.take_length]
          rw [hall] at hO
          clear hbox2 hK hall
          have XhO := Lib.hid hO
          have Xkw := Lib.hid kw
          clear hO kw
          go_wp2_with fail
          go_ret
          exact ⟨_, rfl, Xkw.out, own_base2 XhO.out (by omega)⟩
end Go.Proofs
