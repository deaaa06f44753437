/- sameLoose where both are the same; inklingref09.keptAtom, KeptBody, KeptRule of a copy. -/
import Derived.Test.YtdedcebabimioaaProg
import Derived.Test.YtdedcebabimioaaSame
import Derived.Test.YtdedcebabimioaaFaults
import Derived.Test.YtdedcebabimioaaCopyR
namespace Go.Proofs
open Go.RowKit Go.Ink
set_option linter.unusedVariables false
set_option linter.unusedSimpArgs false
attribute [local go_sem] Oper.semAt_some

def LooseE (w : World) (b o : Nat) (x : LooseD) : Prop := w.cell? ⟨b, o, none⟩ = some (.int .i64 x.rule) ∧ w.cell? ⟨b, o + 1, none⟩ = some (.int .i64 x.at_) ∧ w.cell? ⟨b, o + 2, none⟩ = some (.string x.name)
abbrev LoosesIn (n : Nat) (w : World) (v : Value) (fs : List LooseD) : Prop := SliceIn n w 3 LooseE v fs
theorem looses_keep {n : Nat} {w w' : World} {v : Value} {fs : List LooseD} (h : LoosesIn n w v fs) {m : Nat} (hK : Keep (fun k => k < m) w w') (hm : n ≤ m) : LoosesIn n w' v fs :=
  h.mono fun _ _ _ hb h => ⟨hK.cell h.1 (Nat.lt_of_lt_of_le hb hm), hK.cell h.2.1 (Nat.lt_of_lt_of_le hb hm), hK.cell h.2.2 (Nat.lt_of_lt_of_le hb hm)⟩
theorem own_looses {w : World} {base n : Nat} {e : TypeId} {v : Value} {fs : List LooseD} (h : w.ownsRow base e 3 v n (fs.flatMap looseCells)) (hn : n = fs.length) (hb : fs.length ≤ 1073741824) : LoosesIn w.heap.size w v fs :=
  own_slice h fs hn hb LooseE fun b k t ht hc => by
    have hk : ∀ j, j < 3 → (fs.flatMap looseCells)[k * 3 + j]? = (looseCells t)[j]? := fun j hj => flatMap_at _ 3 (fun _ => rfl) _ k j t ht hj
    exact ⟨by have := hc 0 (by omega); rw [hk 0 (by omega)] at this; exact this, by have := hc 1 (by omega); rw [hk 1 (by omega)] at this; exact this, by have := hc 2 (by omega); rw [hk 2 (by omega)] at this; exact this⟩

set_option maxRecDepth 100000 in
theorem sameLoose_any (n : Nat) (va vb : Value) (fs : List LooseD) (w : World) (ha : LoosesIn n w va fs) (hb : LoosesIn n w vb fs) (hn : n ≤ w.heap.size) :
    Calls Try.prog 14 #[va, vb] w fun e w' => e = .returned (.bool true) ∧ Keep (fun _ => True) w w' := by
  obtain ⟨aa, ca, rfl, hla, hca, hea⟩ := id ha
  obtain ⟨ab, cb, rfl, hlb, hcb, heb⟩ := id hb
  have Xha := Lib.hid ha
  have Xhb := Lib.hid hb
  have Xhea := Lib.hid hea
  have Xheb := Lib.hid heb
  clear ha hb hea heb
  go_enter Try.func14, Try.ntmps14
  go_wp2_with fail
  go_loopw [5] (fun i wr => ∃ k : Nat, k ≤ fs.length ∧ i = .int .i64 k ∧ Keep (fun _ => True) w wr) (fun i _ => fs.length - (intOf i).toNat)
  case atStart => exact ⟨0, by omega, rfl, Keep.refl _ _⟩
  case round =>
    obtain ⟨k, hk, rfl, hK⟩ := hrel
    by_cases hlt : k < fs.length
    · obtain ⟨x, hx⟩ : ∃ x, fs[k]? = some x := ⟨_, List.getElem?_eq_getElem hlt⟩
      obtain ⟨ba, oa, rfl, hba, hxa⟩ := Xhea.out k x hx
      obtain ⟨bb, ob, rfl, hbb, hyb⟩ := Xheb.out k x hx
      have f1 := hK.cell hxa.1 trivial
      have f2 := hK.cell hxa.2.1 trivial
      have f5 := hK.cell hxa.2.2 trivial
      have f3 := hK.cell hyb.1 trivial
      have f4 := hK.cell hyb.2.1 trivial
      have f6 := hK.cell hyb.2.2 trivial
      have hs := hK.size
      have hb1 : ba < wr.heap.size := by omega
      have hb2 : bb < wr.heap.size := by omega
      have hlt1 : (k : Int) < fs.length := by omega
      have hk0 : (0 : Int) ≤ k := by omega
      clear hx hxa hyb
      have XhK := Lib.hid hK
      clear hK
      go_wp2_with fail
      go_quiet (fail)
      go_wp2_with fail
      go_roundw
      case rel => exact ⟨k + 1, by omega, by go_num, XhK.out.trans (Keep.drewN' _ _ _)⟩
      case measure => simp [intOf]; omega
    · obtain rfl : k = fs.length := by omega
      have XhK := Lib.hid hK
      clear hK
      go_wp2_with fail
      go_ret
      exact ⟨rfl, XhK.out⟩

theorem mark_same : ((⟨#[109, 97, 114, 107]⟩ : ByteArray).toList == (⟨#[109, 97, 114, 107]⟩ : ByteArray).toList) = true := by decide +kernel

set_option maxRecDepth 100000 in
theorem keptAtom_any (n base : Nat) (p : ByteArray) (va vb : Value) (ts : List TermD) (w : World) (ha : CopiedTerms base w va ts) (hb : TermsIn n w vb ts) (hn : n ≤ w.heap.size) (hl : ts.length ≤ 1073741824) :
    Calls Try.prog 39 #[.agg #[.string p, va], .agg #[.string p, vb]] w fun e w' => e = .returned (.bool true) ∧ Keep (fun b => b < w.heap.size) w w' := by
  have hta := ha.terms hl
  obtain ⟨g, cap, rfl, ho⟩ := id ha
  obtain ⟨ab, cb, rfl, hlb, hcb, heb⟩ := id hb
  have hcp := own_cap ho
  have hmk := mark_same
  have e0 : w.cell? ⟨g, ts.length * 2 + 1, none⟩ = some (.string ⟨#[109, 97, 114, 107]⟩) := by
    refine own_elem ho (ts.length * 2 + 1) _ ?_
    have := flatMap_at (fun t : TermD => [Value.bool t.var, .string t.text]) 2 (fun _ => rfl) (ts ++ [markT, markT]) ts.length 1 markT (by simp) (by omega)
    exact this
  have e1 : w.cell? ⟨g, (ts.length + 1) * 2 + 1, none⟩ = some (.string ⟨#[109, 97, 114, 107]⟩) := by
    refine own_elem ho ((ts.length + 1) * 2 + 1) _ ?_
    have := flatMap_at (fun t : TermD => [Value.bool t.var, .string t.text]) 2 (fun _ => rfl) (ts ++ [markT, markT]) (ts.length + 1) 1 markT (by simp) (by omega)
    exact this
  have hcap1 : (ts.length : Int) + 2 ≤ cap := by omega
  have hg : g < w.heap.size := hcp.2.2.1
  clear heb
  have Xha := Lib.hid ha
  have Xhb := Lib.hid hb
  have Xhta := Lib.hid hta
  have Xho := Lib.hid ho
  clear ha hb hta ho
  go_enter Try.func39, Try.ntmps39
  go_wp2_with fail
  refine (sameAtom_any w.heap.size p _ _ ts _ (terms_keep Xhta.out ((Keep.alloc _ _ _).trans (Keep.alloc _ _ _))) (terms_wider (terms_keep Xhb.out ((Keep.alloc _ _ _).trans (Keep.alloc _ _ _))) hn) (by simp; omega)).mono ?_
  rintro e W1 ⟨rfl, k1⟩
  have kw : Keep (fun b => b < w.heap.size) w W1 := ((Keep.alloc _ _ _).trans (Keep.alloc _ _ _)).trans (k1.mono fun b _ h => by simp; omega)
  have f0 := kw.cell e0 hg
  have f1 := kw.cell e1 hg
  have hgw : g < W1.heap.size := Nat.lt_of_lt_of_le hg kw.size
  clear k1 e0 e1
  have Xkw := Lib.hid kw
  clear kw
  go_wp2_with fail
  go_ret
  exact ⟨rfl, Xkw.out⟩

set_option maxRecDepth 100000 in
set_option maxHeartbeats 1000000 in
theorem keptBody_any (n base : Nat) (va vb : Value) (body : List LitD) (w : World) (ha : CopiedBody base w va body) (hb : LitsIn n w vb body) (hn : n ≤ w.heap.size) (hl : body.length ≤ 1073741824) (hla : ∀ L, L ∈ body → L.atom.args.length ≤ 1073741824) :
    Calls Try.prog 40 #[va, vb] w fun e w' => e = .returned (.bool true) ∧ Keep (fun b => b < w.heap.size) w w' := by
  have hta := ha.lits hl hla
  obtain ⟨g, cap, ps, rfl, ho, hps, hpt⟩ := id ha
  obtain ⟨ab, cb, rfl, hlb, hcb, heb⟩ := id hb
  have hcp := own_cap ho
  have hpl : ps.length = body.length := by rw [← hps, List.length_map]
  have hcell : ∀ k (p : LitD × Value), (ps ++ [(markL, Value.slice none 0 0), (markL, Value.slice none 0 0)])[k]? = some p → ∀ j v, (litCells p.1 p.2)[j]? = some v → w.cell? ⟨g, k * 7 + j, none⟩ = some v := fun k p hk j v hj => by
    refine own_elem ho (k * 7 + j) _ ?_
    have hj7 : j < 7 := (List.getElem?_eq_some_iff.1 hj).1
    have := flatMap_at (fun p : LitD × Value => litCells p.1 p.2) 7 (fun _ => rfl) _ k j p hk hj7
    rw [this]
    exact hj
  have e0 := hcell body.length (markL, Value.slice none 0 0) (by rw [List.getElem?_append_right (by omega), hpl]; simp) 0 _ rfl
  have e1 := hcell (body.length + 1) (markL, Value.slice none 0 0) (by rw [List.getElem?_append_right (by omega), hpl]; simp) 0 _ rfl
  simp only [Nat.add_zero] at e0 e1
  have hcap1 : (body.length : Int) + 2 ≤ cap := by omega
  have hg : g < w.heap.size := hcp.2.2.1
  have Xha := Lib.hid ha
  have Xhb := Lib.hid hb
  have Xhta := Lib.hid hta
  have Xho := Lib.hid ho
  have Xhps := Lib.hid hps
  have Xhpt := Lib.hid hpt
  have Xhpl := Lib.hid hpl
  have Xhcell := Lib.hid hcell
  have Xheb := Lib.hid heb
  have Xhla := Lib.hid hla
  clear ha hb hta ho hps hpt hpl hcell heb hla
  go_enter Try.func40, Try.ntmps40
  go_wp2_with fail
  refine (sameBody_any w.heap.size _ _ body w Xhta.out (lits_wider Xhb.out hn) (Nat.le_refl _)).mono ?_
  rintro e W1 ⟨rfl, k1⟩
  have Xk1 := Lib.hid k1
  clear k1
  go_wp2_with fail
  go_loopw [6] (fun i wr => ∃ k : Nat, k ≤ body.length ∧ i = .int .i64 k ∧ Keep (fun b => b < w.heap.size) w wr) (fun i _ => body.length - (intOf i).toNat)
  case atStart => exact ⟨0, by omega, rfl, Xk1.out⟩
  case round =>
    obtain ⟨k, hk, rfl, hK⟩ := hrel
    have hs := hK.size
    by_cases hlt : k < body.length
    · obtain ⟨L, hx⟩ : ∃ x, body[k]? = some x := ⟨_, List.getElem?_eq_getElem hlt⟩
      obtain ⟨p, hp⟩ : ∃ p, ps[k]? = some p := ⟨_, List.getElem?_eq_getElem (by rw [Xhpl.out]; exact hlt)⟩
      have hpL : p.1 = L := by
        have h : (ps.map (·.1))[k]? = some p.1 := by rw [List.getElem?_map, hp]; rfl
        rw [Xhps.out, hx] at h
        exact (Option.some.inj h).symm
      have hct := (Xhpt.out p (List.mem_of_getElem? hp)).keep2 (C := fun b => b < w.heap.size) hK (fun b _ h => h)
      rw [hpL] at hct
      have hc := Xhcell.out k p (by rw [List.getElem?_append_left (by rw [Xhpl.out]; exact hlt)]; exact hp)
      obtain ⟨bb, ob, rfl, hbb, sb, hyb, htb⟩ := Xheb.out k L hx
      have f1 := hK.cell (hc 1 _ rfl) hg
      have f2 := hK.cell (hc 2 _ rfl) hg
      rw [hpL] at f1
      have g1 := hK.cell (hyb 1 _ rfl) (show bb < w.heap.size by omega)
      have g2 := hK.cell (hyb 2 _ rfl) (show bb < w.heap.size by omega)
      obtain ⟨g', cap', hv', _⟩ := id hct
      rw [hv'] at f2 hct
      obtain ⟨ab', cb', rfl, hlb', hcb', _⟩ := id htb
      have hb1 : g < wr.heap.size := by omega
      have hb2 : bb < wr.heap.size := by omega
      have htb' := terms_keep htb (hK.mono fun b _ h => by omega)
      have hlt1 : (k : Int) < body.length := by omega
      have hk0 : (0 : Int) ≤ k := by omega
      have hlaL := Xhla.out L (List.mem_of_getElem? hx)
      have hS0 := And.intro f1 (And.intro f2 (And.intro g1 g2))
      clear hx hp hpL hc hyb htb e0 e1 hv'
      have XhK := Lib.hid hK
      have Xhct := Lib.hid hct
      have Xhtb' := Lib.hid htb'
      have XhS0 := Lib.hid hS0
      clear hK hct htb' hS0
      go_wp2_with fail
      go_still_tail 10, (by kernel_rfl)
      change wpList _ _ _ _ _ wr.drew
      refine list_abs (fun W => Keep (fun _ => True) wr W) (Keep.drew _ _) ?_
      rintro W kd
      have hct2 := Xhct.out.keep2 kd (fun _ _ _ => trivial)
      have htb2 := terms_keep Xhtb'.out (kd.mono fun _ _ _ => trivial)
      have hKd := XhK.out.trans (kd.mono fun _ _ _ => trivial)
      have sd := kd.size
      clear f1 f2 g1 g2 kd
      have Xhct2 := Lib.hid hct2
      have Xhtb2 := Lib.hid htb2
      have XhKd := Lib.hid hKd
      clear hct2 htb2 hKd
      go_wp2_with fail
      refine (keptAtom_any n base L.atom.pred _ _ L.atom.args W Xhct2.out Xhtb2.out (by omega) hlaL).mono ?_
      rintro e W2 ⟨rfl, k2⟩
      have hK1 := XhKd.out.trans (k2.mono fun b _ h => by omega)
      clear k2
      have XhK1 := Lib.hid hK1
      clear hK1
      go_wp2_with fail
      go_roundw
      case rel => exact ⟨k + 1, by omega, by go_num, XhK1.out⟩
      case measure => simp [intOf]; omega
    · obtain rfl : k = body.length := by omega
      have f0 := hK.cell e0 hg
      have f1 := hK.cell e1 hg
      have hgw : g < wr.heap.size := by omega
      have f0' : wr.cell? ⟨g, body.length * 7, none⟩ = some (.int .i64 77) := f0
      have f1' : wr.cell? ⟨g, (body.length + 1) * 7, none⟩ = some (.int .i64 77) := f1
      clear f0 f1 e0 e1
      have XhK := Lib.hid hK
      clear hK
      go_wp2_with fail
      go_ret
      exact ⟨rfl, XhK.out⟩

set_option maxRecDepth 100000 in
theorem keptRule_any (n base : Nat) (r : RuleD) (sh sb sh' sb' : Value) (w : World) (hah : CopiedTerms base w sh r.head.args) (hab : CopiedBody base w sb r.body) (hb : RuleIn n w sh' sb' r) (hn : n ≤ w.heap.size) (hla : ∀ L, L ∈ r.body → L.atom.args.length ≤ 1073741824) :
    Calls Try.prog 31 #[.agg #[.string r.head.pred, sh, sb], .agg #[.string r.head.pred, sh', sb']] w fun e w' => e = .returned (.bool true) ∧ Keep (fun b => b < w.heap.size) w w' := by
  obtain ⟨g1, c1, rfl, _⟩ := id hah
  obtain ⟨g2, c2, ps, rfl, _⟩ := id hab
  obtain ⟨⟨ah', capH', rfl, hlenh', hcaph', helh'⟩, ⟨ab', capB', rfl, hlenb', hcapb', helb'⟩⟩ := id hb
  clear helh' helb'
  have Xhah := Lib.hid hah
  have Xhab := Lib.hid hab
  have Xhb := Lib.hid hb
  have Xhla := Lib.hid hla
  clear hah hab hb hla
  go_enter Try.func31, Try.ntmps31
  go_wp2_with fail
  refine Calls_abs2 (fun W => Keep (fun b => b < w.heap.size) w W ∧ W.heap.size = w.heap.size + 1 + 1 ∧ W.heap[w.heap.size]? = some (.cells #[.string r.head.pred, .slice (some ⟨g1, 0, none⟩) r.head.args.length c1, .slice (some ⟨g2, 0, none⟩) r.body.length c2] 27 (0, 0)) ∧ W.heap[w.heap.size + 1]? = some (.cells #[.string r.head.pred, .slice ah' r.head.args.length capH', .slice ab' r.body.length capB'] 27 (0, 0)))
    ⟨(Keep.alloc _ _ _).trans (Keep.alloc _ _ _), by simp, by simp only [alloc_get, World.size_alloc]; simp, by simp only [alloc_get, World.size_alloc]; simp⟩ ?_
  rintro W0 ⟨k0, s0, n1, n2⟩
  have hah0 := Xhah.out.keep2 k0 (fun b _ h => h)
  have hab0 := Xhab.out.keep k0 (fun b _ h => h)
  have hrb := Xhb.out.keep (w' := W0) (k0.mono fun b _ h => by omega)
  refine (keptAtom_any n base r.head.pred _ _ r.head.args W0 hah0 hrb.1 (by omega) hlenh').mono ?_
  rintro e W1 ⟨rfl, k1⟩
  have z1 := k1.size
  have m1 := k1.heap n1 (by omega)
  have m2 := k1.heap n2 (by omega)
  have e2 := cells_of_block m1 2 _ rfl
  have g2' := cells_of_block m2 2 _ rfl
  simp only [Nat.zero_add] at e2 g2'
  have kw : Keep (fun b => b < w.heap.size) w W1 := k0.trans (k1.mono fun b _ h => by omega)
  have hab1 := Xhab.out.keep kw (fun b _ h => h)
  have hrb1 := hrb.keep (w' := W1) (k1.mono fun b _ h => by omega)
  clear k1 k0 n1 n2 m1 m2 hah0 hab0 hrb
  have Xkw := Lib.hid kw
  have Xhab1 := Lib.hid hab1
  have Xhrb1 := Lib.hid hrb1
  clear kw hab1 hrb1
  go_wp2_with fail
  refine (keptBody_any n base _ _ r.body W1 Xhab1.out Xhrb1.out.2 (by omega) hlenb' Xhla.out).mono ?_
  rintro e W2 ⟨rfl, k2⟩
  have kw2 := Xkw.out.trans (k2.mono fun b _ h => by omega)
  clear k2
  have Xkw2 := Lib.hid kw2
  clear kw2
  go_wp2_with fail
  go_ret
  exact ⟨rfl, Xkw2.out⟩
end Go.Proofs
