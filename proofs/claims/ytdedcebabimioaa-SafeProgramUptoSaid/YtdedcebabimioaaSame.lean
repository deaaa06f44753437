/- inklingref09.SameTerms, SameAtom, SameLiteral, SameBody, SameRule, where both are the same. -/
import Derived.Test.YtdedcebabimioaaProg
import Derived.Test.YtdedcebabimioaaRule
import Derived.Test.YtdedcebabimioaaSmall
import Derived.Deep.QuietTactic
import Derived.BigQuiet
import Derived.Laws.StructEq
import Derived.StillTailTactics
namespace Go.Proofs
open Go.RowKit Go.Ink
set_option linter.unusedVariables false
set_option linter.unusedSimpArgs false
attribute [local go_sem] Oper.semAt_some

theorem list_abs {P : Program} {ops : Array Oper} {Q : Exit → Act → World → Prop} {l : List Oper} {a : Act} {w : World} (G : World → Prop) (h : G w) (k : ∀ W, G W → wpList P ops Q l a W) : wpList P ops Q l a w := k w h
theorem Calls_abs2 {P : Program} {f : FuncId} {args : Array Value} {R : Ending → World → Prop} {w : World} (G : World → Prop) (h : G w) (k : ∀ W, G W → Calls P f args W R) : Calls P f args w R := k w h

set_option maxRecDepth 100000 in
theorem sameTerms_any (n : Nat) (va vb : Value) (ts : List TermD) (w : World) (ha : TermsIn n w va ts) (hb : TermsIn n w vb ts) (hn : n ≤ w.heap.size) :
    Calls Try.prog 44 #[va, vb] w fun e w' => e = .returned (.bool true) ∧ Keep (fun _ => True) w w' := by
  obtain ⟨aa, ca, rfl, hla, hca, hea⟩ := id ha
  obtain ⟨ab, cb, rfl, hlb, hcb, heb⟩ := id hb
  have Xha := Lib.hid ha
  have Xhb := Lib.hid hb
  have Xhea := Lib.hid hea
  have Xheb := Lib.hid heb
  clear ha hb hea heb
  go_enter Try.func44, Try.ntmps44
  go_wp2_with fail
  go_loopw [5] (fun i wr => ∃ k : Nat, k ≤ ts.length ∧ i = .int .i64 k ∧ Keep (fun _ => True) w wr) (fun i _ => ts.length - (intOf i).toNat)
  case atStart => exact ⟨0, by omega, rfl, Keep.refl _ _⟩
  case round =>
    obtain ⟨k, hk, rfl, hK⟩ := hrel
    by_cases hlt : k < ts.length
    · obtain ⟨x, hx⟩ : ∃ x, ts[k]? = some x := ⟨_, List.getElem?_eq_getElem hlt⟩
      obtain ⟨ba, oa, rfl, hba, hxa⟩ := Xhea.out k x hx
      obtain ⟨bb, ob, rfl, hbb, hyb⟩ := Xheb.out k x hx
      have f1 := hK.cell hxa.1 trivial
      have f2 := hK.cell hxa.2 trivial
      have f3 := hK.cell hyb.1 trivial
      have f4 := hK.cell hyb.2 trivial
      have hs := hK.size
      have hb1 : ba < wr.heap.size := by omega
      have hb2 : bb < wr.heap.size := by omega
      have hlt1 : (k : Int) < ts.length := by omega
      have hk0 : (0 : Int) ≤ k := by omega
      clear hx hxa hyb
      have XhK := Lib.hid hK
      clear hK
      go_wp2_with fail
      go_quiet (fail)
      go_wp2_with fail
      go_roundw
      case rel => exact ⟨k + 1, by omega, by go_num, XhK.out.trans (Keep.drewN' _ _ _)⟩
      case measure => simp [intOf]; omega
    · obtain rfl : k = ts.length := by omega
      have XhK := Lib.hid hK
      clear hK
      go_wp2_with fail
      go_ret
      exact ⟨rfl, XhK.out⟩

set_option maxRecDepth 100000 in
theorem sameAtom_any (n : Nat) (p : ByteArray) (va vb : Value) (ts : List TermD) (w : World) (ha : TermsIn n w va ts) (hb : TermsIn n w vb ts) (hn : n ≤ w.heap.size) :
    Calls Try.prog 42 #[.agg #[.string p, va], .agg #[.string p, vb]] w fun e w' => e = .returned (.bool true) ∧ Keep (fun b => b < w.heap.size) w w' := by
  obtain ⟨aa, ca, rfl, hla, hca, hea⟩ := id ha
  obtain ⟨ab, cb, rfl, hlb, hcb, heb⟩ := id hb
  have hpp : (p.toList == p.toList) = true := str_same rfl
  have Xha := Lib.hid ha
  have Xhb := Lib.hid hb
  have Xhea := Lib.hid hea
  have Xheb := Lib.hid heb
  clear ha hb hea heb
  go_enter Try.func42, Try.ntmps42
  go_wp2_with fail
  refine (sameTerms_any n _ _ ts _ (terms_keep Xha.out ((Keep.alloc _ _ _).trans (Keep.alloc _ _ _))) (terms_keep Xhb.out ((Keep.alloc _ _ _).trans (Keep.alloc _ _ _))) (by simp; omega)).mono ?_
  rintro e W1 ⟨rfl, k1⟩
  have kw : Keep (fun b => b < w.heap.size) w W1 := ((Keep.alloc _ _ _).trans (Keep.alloc _ _ _)).trans (k1.mono fun _ _ _ => trivial)
  clear k1
  have Xkw := Lib.hid kw
  clear kw
  go_wp2_with fail
  go_ret
  exact ⟨rfl, Xkw.out⟩

set_option maxRecDepth 100000 in
theorem sameLit_any (n : Nat) (L : LitD) (va vb : Value) (w : World) (ha : TermsIn n w va L.atom.args) (hb : TermsIn n w vb L.atom.args) (hn : n ≤ w.heap.size) :
    Calls Try.prog 45 #[.agg (litCells L va).toArray, .agg (litCells L vb).toArray] w fun e w' => e = .returned (.bool true) ∧ Keep (fun b => b < w.heap.size) w w' := by
  unfold litCells
  obtain ⟨aa, ca, rfl, hla, hca, hea⟩ := id ha
  obtain ⟨ab, cb, rfl, hlb, hcb, heb⟩ := id hb
  have hp1 : (L.left.text.toList == L.left.text.toList) = true := str_same rfl
  have hp2 : (L.right.text.toList == L.right.text.toList) = true := str_same rfl
  have Xha := Lib.hid ha
  have Xhb := Lib.hid hb
  have Xhea := Lib.hid hea
  have Xheb := Lib.hid heb
  clear ha hb hea heb
  go_enter Try.func45, Try.ntmps45
  go_wp2_with fail
  refine Calls_abs2 (fun W => Keep (fun b => b < w.heap.size) w W ∧ W.heap.size = w.heap.size + 1 + 1 ∧ W.heap[w.heap.size]? = some (.cells (litCells L (.slice aa L.atom.args.length ca)).toArray 37 (0, 0)) ∧ W.heap[w.heap.size + 1]? = some (.cells (litCells L (.slice ab L.atom.args.length cb)).toArray 37 (0, 0)))
    ⟨(Keep.alloc _ _ _).trans (Keep.alloc _ _ _), by simp, old_block (new_block _ _) _, by simp only [alloc_get, World.size_alloc]; simp [litCells]⟩ ?_
  rintro W0 ⟨k0, s0, n1, n2⟩
  refine (sameAtom_any n L.atom.pred _ _ L.atom.args W0 (terms_keep Xha.out (k0.mono fun b _ h => by omega)) (terms_keep Xhb.out (k0.mono fun b _ h => by omega)) (by omega)).mono ?_
  rintro e W1 ⟨rfl, k1⟩
  have m1 := k1.heap n1 (by omega)
  have m2 := k1.heap n2 (by omega)
  have c3 := cells_of_block m1 3 _ rfl
  have c4 := cells_of_block m1 4 _ rfl
  have c5 := cells_of_block m1 5 _ rfl
  have c6 := cells_of_block m1 6 _ rfl
  have g3 := cells_of_block m2 3 _ rfl
  have g4 := cells_of_block m2 4 _ rfl
  have g5 := cells_of_block m2 5 _ rfl
  have g6 := cells_of_block m2 6 _ rfl
  simp only [Nat.zero_add] at c3 c4 c5 c6 g3 g4 g5 g6
  have kw : Keep (fun b => b < w.heap.size) w W1 := k0.trans (k1.mono fun b _ h => by omega)
  clear k1 k0 n1 n2 m1 m2
  have Xkw := Lib.hid kw
  clear kw
  go_wp2_with fail
  go_ret
  exact ⟨rfl, Xkw.out⟩

set_option maxRecDepth 100000 in
theorem sameBody_any (n : Nat) (va vb : Value) (body : List LitD) (w : World) (ha : LitsIn n w va body) (hb : LitsIn n w vb body) (hn : n ≤ w.heap.size) :
    Calls Try.prog 43 #[va, vb] w fun e w' => e = .returned (.bool true) ∧ Keep (fun b => b < w.heap.size) w w' := by
  obtain ⟨aa, ca, rfl, hla, hca, hea⟩ := id ha
  obtain ⟨ab, cb, rfl, hlb, hcb, heb⟩ := id hb
  have Xha := Lib.hid ha
  have Xhb := Lib.hid hb
  have Xhea := Lib.hid hea
  have Xheb := Lib.hid heb
  clear ha hb hea heb
  go_enter Try.func43, Try.ntmps43
  go_wp2_with fail
  go_loopw [5] (fun i wr => ∃ k : Nat, k ≤ body.length ∧ i = .int .i64 k ∧ Keep (fun b => b < w.heap.size) w wr) (fun i _ => body.length - (intOf i).toNat)
  case atStart => exact ⟨0, by omega, rfl, Keep.refl _ _⟩
  case round =>
    obtain ⟨k, hk, rfl, hK⟩ := hrel
    by_cases hlt : k < body.length
    · obtain ⟨L, hx⟩ : ∃ x, body[k]? = some x := ⟨_, List.getElem?_eq_getElem hlt⟩
      obtain ⟨ba, oa, rfl, hba, sa, hxa, hta⟩ := Xhea.out k L hx
      obtain ⟨bb, ob, rfl, hbb, sb, hyb, htb⟩ := Xheb.out k L hx
      have hs := hK.size
      have f : ∀ j v, (litCells L sa)[j]? = some v → wr.cell? ⟨ba, oa + k * 7 + j, none⟩ = some v := fun j v h => hK.cell (hxa j v h) (show ba < w.heap.size by omega)
      have g : ∀ j v, (litCells L sb)[j]? = some v → wr.cell? ⟨bb, ob + k * 7 + j, none⟩ = some v := fun j v h => hK.cell (hyb j v h) (show bb < w.heap.size by omega)
      have f0 := f 0 _ rfl
      have f1 := f 1 _ rfl
      have f2 := f 2 _ rfl
      have f3 := f 3 _ rfl
      have f4 := f 4 _ rfl
      have f5 := f 5 _ rfl
      have f6 := f 6 _ rfl
      have g0 := g 0 _ rfl
      have g1 := g 1 _ rfl
      have g2 := g 2 _ rfl
      have g3 := g 3 _ rfl
      have g4 := g 4 _ rfl
      have g5 := g 5 _ rfl
      have g6 := g 6 _ rfl
      simp only [Nat.add_zero] at f0 g0
      have hb1 : ba < wr.heap.size := by omega
      have hb2 : bb < wr.heap.size := by omega
      have hta' := terms_keep hta (hK.mono fun b _ h => by omega)
      have htb' := terms_keep htb (hK.mono fun b _ h => by omega)
      have hlt1 : (k : Int) < body.length := by omega
      have hk0 : (0 : Int) ≤ k := by omega
      clear hx hxa hyb f g hta htb
      have hS0 := And.intro f0 (And.intro f1 (And.intro f2 (And.intro f3 (And.intro f4 (And.intro f5 f6)))))
      have hS1 := And.intro g0 (And.intro g1 (And.intro g2 (And.intro g3 (And.intro g4 (And.intro g5 g6)))))
      have XhK := Lib.hid hK
      have Xhta' := Lib.hid hta'
      have Xhtb' := Lib.hid htb'
      have XhS0 := Lib.hid hS0
      have XhS1 := Lib.hid hS1
      clear hK hta' htb' hS0 hS1
      go_wp2_with fail
      go_still_tail 8, (by kernel_rfl)
      change wpList _ _ _ _ _ wr.drew
      refine list_abs (fun W => Keep (fun _ => True) wr W) (Keep.drew _ _) ?_
      rintro W kd
      have hta2 := terms_keep Xhta'.out (kd.mono fun _ _ _ => trivial)
      have htb2 := terms_keep Xhtb'.out (kd.mono fun _ _ _ => trivial)
      have hKd := XhK.out.trans (kd.mono fun _ _ _ => trivial)
      have sd := kd.size
      clear f0 f1 f2 f3 f4 f5 f6 g0 g1 g2 g3 g4 g5 g6 kd
      have Xhta2 := Lib.hid hta2
      have Xhtb2 := Lib.hid htb2
      have XhKd := Lib.hid hKd
      clear hta2 htb2 hKd
      go_wp2_with fail
      refine (sameLit_any n L _ _ W Xhta2.out Xhtb2.out (by omega)).mono ?_
      rintro e W1 ⟨rfl, k1⟩
      have hK1 := XhKd.out.trans (k1.mono fun b _ h => by omega)
      clear k1
      have XhK1 := Lib.hid hK1
      clear hK1
      go_wp2_with fail
      go_roundw
      case rel => exact ⟨k + 1, by omega, by go_num, XhK1.out⟩
      case measure => simp [intOf]; omega
    · obtain rfl : k = body.length := by omega
      have XhK := Lib.hid hK
      clear hK
      go_wp2_with fail
      go_ret
      exact ⟨rfl, XhK.out⟩

set_option maxRecDepth 100000 in
theorem sameRule_any (n : Nat) (r : RuleD) (sh sb sh' sb' : Value) (w : World) (ha : RuleIn n w sh sb r) (hb : RuleIn n w sh' sb' r) (hn : n ≤ w.heap.size) :
    Calls Try.prog 38 #[.agg #[.string r.head.pred, sh, sb], .agg #[.string r.head.pred, sh', sb']] w fun e w' => e = .returned (.bool true) ∧ Keep (fun b => b < w.heap.size) w w' := by
  obtain ⟨⟨ah, capH, rfl, hlenh, hcaph, helh⟩, ⟨ab, capB, rfl, hlenb, hcapb, helb⟩⟩ := id ha
  obtain ⟨⟨ah', capH', rfl, hlenh', hcaph', helh'⟩, ⟨ab', capB', rfl, hlenb', hcapb', helb'⟩⟩ := id hb
  clear helh helb helh' helb'
  have Xha := Lib.hid ha
  have Xhb := Lib.hid hb
  clear ha hb
  go_enter Try.func38, Try.ntmps38
  go_wp2_with fail
  refine Calls_abs2 (fun W => Keep (fun b => b < w.heap.size) w W ∧ W.heap.size = w.heap.size + 1 + 1 ∧ W.heap[w.heap.size]? = some (.cells #[.string r.head.pred, .slice ah r.head.args.length capH, .slice ab r.body.length capB] 27 (0, 0)) ∧ W.heap[w.heap.size + 1]? = some (.cells #[.string r.head.pred, .slice ah' r.head.args.length capH', .slice ab' r.body.length capB'] 27 (0, 0)))
    ⟨(Keep.alloc _ _ _).trans (Keep.alloc _ _ _), by simp, by simp only [alloc_get, World.size_alloc]; simp, by simp only [alloc_get, World.size_alloc]; simp⟩ ?_
  rintro W0 ⟨k0, s0, n1, n2⟩
  have hra := Xha.out.keep (w' := W0) (k0.mono fun b _ h => by omega)
  have hrb := Xhb.out.keep (w' := W0) (k0.mono fun b _ h => by omega)
  refine (sameAtom_any n r.head.pred _ _ r.head.args W0 hra.1 hrb.1 (by omega)).mono ?_
  rintro e W1 ⟨rfl, k1⟩
  have z1 := k1.size
  have m1 := k1.heap n1 (by omega)
  have m2 := k1.heap n2 (by omega)
  have c2 := cells_of_block m1 2 _ rfl
  have g2 := cells_of_block m2 2 _ rfl
  simp only [Nat.zero_add] at c2 g2
  have kw : Keep (fun b => b < w.heap.size) w W1 := k0.trans (k1.mono fun b _ h => by omega)
  have hra1 := hra.keep (w' := W1) (k1.mono fun b _ h => by omega)
  have hrb1 := hrb.keep (w' := W1) (k1.mono fun b _ h => by omega)
  clear k1 k0 n1 n2 m1 m2 hra hrb
  have Xkw := Lib.hid kw
  have Xhra1 := Lib.hid hra1
  have Xhrb1 := Lib.hid hrb1
  clear kw hra1 hrb1
  go_wp2_with fail
  refine (sameBody_any n _ _ r.body W1 Xhra1.out.2 Xhrb1.out.2 (by omega)).mono ?_
  rintro e W2 ⟨rfl, k2⟩
  have kw2 := Xkw.out.trans (k2.mono fun b _ h => by omega)
  clear k2
  have Xkw2 := Lib.hid kw2
  clear kw2
  go_wp2_with fail
  go_ret
  exact ⟨rfl, Xkw2.out⟩
end Go.Proofs
