/- Layer 16 (plan): the document's literals in form (PnE turned). -/
import Derived.Test.YtichfebfcapnhaaProg
import Derived.Test.YtichfebfcapnhaaPnDToPnE
namespace Go.Proofs
open Go.RowKit Go.Ink
set_option linter.unusedVariables false
set_option linter.unusedSimpArgs false
attribute [local go_sem] Oper.semAt_some

set_option maxRecDepth 100000 in
set_option maxHeartbeats 2000000 in
theorem refLit_any (n : Nat) (L : LitD) (hsm : smallL L) (sa : Value) (w : World) (ha : TermsIn n w sa L.atom.args) (hn : n ≤ w.heap.size) : Calls Try.prog 88 #[litV L sa] w fun e w' => e = .returned (.bool (litB L)) ∧ Keep (fun b => b < w.heap.size) w w' := by
  have hat := fun W (hW : TermsIn n W sa L.atom.args) (h2 : n ≤ W.heap.size) => refAtom_any n L.atom hsm.1 sa W hW h2
  have ht1 := fun W => refTerm_any L.left hsm.2.1 W
  have ht2 := fun W => refTerm_any L.right hsm.2.2 W
  have hq1 := fun W => eql_term L.left tNone W
  have hq2 := fun W => eql_term L.right tNone W
  have hL : litB L = if L.kind = 1 ∨ L.kind = 2 then atomB L.atom && decide (L.left = tNone) && decide (L.right = tNone) else if L.kind = 3 then decide (L.atom.pred = ⟨#[]⟩) && decide (L.atom.args.length = 0) && termB L.left && termB L.right else false := rfl
  obtain ⟨bA, hbA⟩ : ∃ b, atomB L.atom = b := ⟨_, rfl⟩
  obtain ⟨bq1, hbq1⟩ : ∃ b, decide (L.left = tNone) = b := ⟨_, rfl⟩
  obtain ⟨bq2, hbq2⟩ : ∃ b, decide (L.right = tNone) = b := ⟨_, rfl⟩
  obtain ⟨bt1, hbt1⟩ : ∃ b, termB L.left = b := ⟨_, rfl⟩
  obtain ⟨bt2, hbt2⟩ : ∃ b, termB L.right = b := ⟨_, rfl⟩
  obtain ⟨bl, hbl⟩ : ∃ b, litB L = b := ⟨_, rfl⟩
  rw [hbl]
  rw [hbl, hbA, hbq1, hbq2, hbt1, hbt2] at hL
  simp only [hbA] at hat
  simp only [hbt1] at ht1
  simp only [hbt2] at ht2
  simp only [hbq1] at hq1
  simp only [hbq2] at hq2
  clear hsm hbl hbA hbq1 hbq2 hbt1 hbt2
  obtain ⟨k, ⟨pr, args⟩, ⟨lv, lt⟩, ⟨rv, rt⟩⟩ := L
  unfold litV
  unfold termV tNone at hq1 hq2
  unfold termV at ht1 ht2
  simp only at *
  obtain ⟨aa, ca, rfl, hla, hca, -⟩ := id ha
  obtain ⟨m, hm⟩ : ∃ m, args.length = m := ⟨_, rfl⟩
  rw [hm] at hL ha hat hla hca
  rw [hm]
  obtain ⟨nb, hnb⟩ : ∃ nb, w.heap.size = nb := ⟨_, rfl⟩
  obtain ⟨W0, hW0⟩ : ∃ W0, w.alloc (.cells #[.int .i64 k, .string pr, .slice aa m ca, .bool lv, .string lt, .bool rv, .string rt] 78) = W0 := ⟨_, rfl⟩
  have k0 : Keep (fun _ => True) w W0 := by rw [← hW0]; exact Keep.alloc _ _ _
  have b0 : W0.heap[nb]? = some (.cells #[.int .i64 k, .string pr, .slice aa m ca, .bool lv, .string lt, .bool rv, .string rt] 78 (0, 0)) := by rw [← hW0, ← hnb]; exact new_block _ _
  have l0 := heap_lt b0
  have hsz := k0.size
  have hat0 := hat W0 (terms_keep ha (k0.mono fun _ _ _ => trivial)) (by omega)
  have c0 := cells_of_block b0 0 _ rfl
  have c1 := cells_of_block b0 1 _ rfl
  have c2 := cells_of_block b0 2 _ rfl
  have c3 := cells_of_block b0 3 _ rfl
  have c4 := cells_of_block b0 4 _ rfl
  have c5 := cells_of_block b0 5 _ rfl
  have c6 := cells_of_block b0 6 _ rfl
  simp only [Nat.zero_add] at c0 c1 c2 c3 c4 c5 c6
  clear ha hat hla hca hm
  have XhL := Lib.hid hL
  have Xhat0 := Lib.hid hat0
  have Xht1 := Lib.hid ht1
  have Xht2 := Lib.hid ht2
  have Xk0 := Lib.hid k0
  have XhW0 := Lib.hid hW0
  have Xhnb := Lib.hid hnb
  have Xb0 := Lib.hid b0
  clear hL hat0 ht1 ht2 k0 hW0 hnb b0
  by_cases e12 : k = 1 ∨ k = 2
  · have hL2 : bl = (bA && bq1 && bq2) := by rw [XhL.out, if_pos e12]
    have XhL2 := Lib.hid hL2
    clear hL2
    rcases e12 with rfl | rfl
    all_goals cases bA
    all_goals (try cases bq1)
    all_goals go_enter Try.func88, Try.ntmps88
    all_goals go_wp2_with fail
    all_goals rw [XhW0.out, Xhnb.out]
    all_goals refine Xhat0.out.mono ?_
    all_goals (rintro e W1 ⟨rfl, k1⟩; have c3' := k1.cell c3 l0; have c4' := k1.cell c4 l0; have c5' := k1.cell c5 l0; have c6' := k1.cell c6 l0; have hz1 := k1.size; have l0' : nb < W1.heap.size := (by omega); have kk : Keep (fun b => b < nb) w W1 := (Xk0.out.mono fun _ _ _ => trivial).trans (k1.mono fun b hb _ => (by omega)); clear k1 c0 c1 c2 c3 c4 c5 c6; have Xkk := Lib.hid kk; clear kk)
    all_goals go_wp2_with fail
    all_goals go_ret
    all_goals exact ⟨by rw [XhL2.out]; (try cases bq1) <;> (try cases bq2) <;> rfl, Xkk.out.mono fun b hb h => by have := Xhnb.out; omega⟩
  · by_cases e3 : k = 3
    · have hL3 : bl = (decide (pr = ⟨#[]⟩) && decide (m = 0) && bt1 && bt2) := by rw [XhL.out, if_neg e12, if_pos e3]
      subst e3
      by_cases hp : pr = ⟨#[]⟩
      · subst hp
        rw [show decide ((⟨#[]⟩ : ByteArray) = ⟨#[]⟩) = true from rfl, Bool.true_and] at hL3
        by_cases hn0 : m = 0
        · subst hn0
          rw [show decide (0 = 0) = true from rfl, Bool.true_and] at hL3
          have XhL3 := Lib.hid hL3
          have Xhq1 := Lib.hid hq1
          have Xhq2 := Lib.hid hq2
          clear hL3 hq1 hq2
          cases bt1
          all_goals go_enter Try.func88, Try.ntmps88
          all_goals go_wp2_with fail
          all_goals rw [XhW0.out]
          all_goals refine (Xht1.out _).mono ?_
          all_goals (rintro e W1 ⟨rfl, k1⟩; have c6' := k1.cell c6 trivial; have c5' := k1.cell c5 trivial; have l0' := k1.size; have kk : Keep (fun b => b < nb) w W1 := ((Xk0.out.mono fun _ _ _ => trivial).trans (k1.mono fun b hb _ => trivial)); clear k1 c0 c1 c2 c3 c4 c5 c6; have Xkk := Lib.hid kk; clear kk)
          · go_wp2_with fail
            go_ret
            exact ⟨by rw [XhL3.out]; rfl, Xkk.out.mono fun b hb h => by have := Xhnb.out; omega⟩
          · rw [Xhnb.out]
            go_wp2_with fail
            refine (Xht2.out _).mono ?_
            rintro e W2 ⟨rfl, k2⟩
            go_wp2_with fail
            go_ret
            exact ⟨by rw [XhL3.out]; rfl, (Xkk.out.trans (k2.mono fun _ _ _ => trivial)).mono fun b hb h => by have := Xhnb.out; omega⟩
        · have hn1 : ¬ (m : Int) = 0 := by omega
          rw [decide_eq_false hn0, Bool.false_and, Bool.false_and] at hL3
          have XhL3 := Lib.hid hL3
          have Xhq1 := Lib.hid hq1
          have Xhq2 := Lib.hid hq2
          clear hL3 hq1 hq2
          go_enter Try.func88, Try.ntmps88
          go_wp2_with fail
          go_ret
          exact ⟨by rw [XhL3.out]; rfl, by rw [XhW0.out]; exact Xk0.out.mono fun _ _ _ => trivial⟩
      · rw [decide_eq_false hp, Bool.false_and, Bool.false_and, Bool.false_and] at hL3
        have hp1 := bytes_nil hp
        have XhL3 := Lib.hid hL3
        have Xhq1 := Lib.hid hq1
        have Xhq2 := Lib.hid hq2
        clear hL3 hq1 hq2
        go_enter Try.func88, Try.ntmps88
        go_wp2_with fail
        go_ret
        exact ⟨by rw [XhL3.out]; rfl, by rw [XhW0.out]; exact Xk0.out.mono fun _ _ _ => trivial⟩
    · have hL4 : bl = false := by rw [XhL.out, if_neg e12, if_neg e3]
      have e1 : ¬ k = 1 := fun h => e12 (.inl h)
      have e2 : ¬ k = 2 := fun h => e12 (.inr h)
      clear e12
      have XhL4 := Lib.hid hL4
      have Xhq1 := Lib.hid hq1
      have Xhq2 := Lib.hid hq2
      clear hL4 hq1 hq2
      go_enter Try.func88, Try.ntmps88
      go_wp2_with fail
      go_ret
      exact ⟨by rw [XhL4.out]; rfl, by rw [XhW0.out]; exact Xk0.out.mono fun _ _ _ => trivial⟩
end Go.Proofs

/- Layer 16 (plan): rules in form: the program and the document. -/
namespace Go.Proofs
open Go.RowKit Go.Ink
set_option linter.unusedVariables false
set_option linter.unusedSimpArgs false
attribute [local go_sem] Oper.semAt_some

def formedB (r : RuleD) : Bool := decide (r.body.length ≤ 256) && atomB r.head && r.body.all litB
def smallR (r : RuleD) : Prop := smallA r.head ∧ ∀ L, L ∈ r.body → smallL L
def ruleV (r : RuleD) (sh sb : Value) : Value := .agg #[.string r.head.pred, sh, sb]

set_option maxRecDepth 100000 in
theorem notLit_any (n : Nat) (L : LitD) (sa : Value) (w : World) (ha : TermsIn n w sa L.atom.args) (hn : n ≤ w.heap.size) : Calls Try.prog 85 #[litV L sa] w fun e w' => e = .returned (.bool (!litB L)) ∧ Keep (fun b => b < w.heap.size) w w' := by
  have h := fun W (hK : Keep (fun _ => True) w W) => lit_any n L sa W (terms_keep ha (hK.mono fun _ _ _ => trivial)) (by have := hK.size; omega)
  obtain ⟨aa, ca, rfl, -, -, -⟩ := id ha
  obtain ⟨k, ⟨pr, args⟩, ⟨lv, lt⟩, ⟨rv, rt⟩⟩ := L
  unfold litV at h ⊢
  simp only at h ⊢
  obtain ⟨b1, hb1⟩ : ∃ b, litB ⟨k, ⟨pr, args⟩, ⟨lv, lt⟩, ⟨rv, rt⟩⟩ = b := ⟨_, rfl⟩
  simp only [hb1] at h
  rw [hb1]
  clear ha
  have Xh := Lib.hid h
  have Xhb1 := Lib.hid hb1
  clear h hb1
  go_enter Try.func85, Try.ntmps85
  go_wp2_with fail
  refine (Xh.out _ (Keep.alloc _ _ _)).mono ?_
  rintro e w1 ⟨rfl, k1⟩
  go_wp2_with fail
  go_ret
  exact ⟨rfl, (Keep.alloc _ _ _).trans (k1.mono fun b hb _ => by simp; omega)⟩

set_option maxRecDepth 100000 in
theorem formed_any (n : Nat) (r : RuleD) (sh sb : Value) (w : World) (hr : RuleIn n w sh sb r) (hn : n ≤ w.heap.size) : Calls Try.prog 53 #[ruleV r sh sb] w fun e w' => e = .returned (.bool (formedB r)) ∧ Keep (fun b => b < w.heap.size) w w' := by
  obtain ⟨⟨pr, args⟩, body⟩ := r
  obtain ⟨hh, hb⟩ := hr
  unfold ruleV
  simp only at hh hb ⊢
  have hE : formedB ⟨⟨pr, args⟩, body⟩ = (decide (body.length ≤ 256) && atomB ⟨pr, args⟩ && body.all litB) := rfl
  have hat := fun W (hK : Keep (fun _ => True) w W) => atom_any n ⟨pr, args⟩ sh W (terms_keep hh (hK.mono fun _ _ _ => trivial)) (by have := hK.size; omega)
  have hls := fun W (hK : Keep (fun b => b < w.heap.size) w W) => hasLits_any (gf := 85) (bs := #[]) (lb := #[]) (enters Try.func85 (by kernel_rfl) rfl) (fun L => !litB L) n sb body W (lits_keep hb (hK.mono fun b _ h => by omega)) (by have := hK.size; omega)
    (fun x _ W2 hK2 sa hsa => (notLit_any n x sa W2 hsa (by have := hK.size; have := hK2.size; omega)).mono fun e w' ⟨e1, k1⟩ => ⟨e1, k1⟩)
  rw [any_not litB body] at hls
  obtain ⟨bA, hbA⟩ : ∃ b, atomB ⟨pr, args⟩ = b := ⟨_, rfl⟩
  obtain ⟨bL, hbL⟩ : ∃ b, body.all litB = b := ⟨_, rfl⟩
  rw [hbA, hbL, show decide (body.length ≤ 256) = decide ((body.length : Int) ≤ 256) from by rw [decide_eq_decide]; omega] at hE
  simp only [hbA] at hat
  simp only [hbL] at hls
  obtain ⟨aa, ca, rfl, -, -, -⟩ := id hh
  obtain ⟨ab, cb, rfl, hlb, hcb, -⟩ := id hb
  obtain ⟨W0, hW0⟩ : ∃ W0, w.alloc (.cells #[.string pr, .slice aa args.length ca, .slice ab body.length cb] 28) = W0 := ⟨_, rfl⟩
  have k0 : Keep (fun _ => True) w W0 := by rw [← hW0]; exact Keep.alloc _ _ _
  have hz := k0.size
  have c2 : W0.cell? ⟨w.heap.size, 2, none⟩ = some (.slice ab body.length cb) := by rw [← hW0]; simp
  have l0 : w.heap.size < W0.heap.size := by rw [← hW0]; simp
  have hat0 := hat W0 k0
  clear hh hb hbA hbL hat
  obtain ⟨b3, hb3⟩ : ∃ b, decide ((body.length : Int) ≤ 256) = b := ⟨_, rfl⟩
  rw [hb3] at hE
  have XhE := Lib.hid hE
  have Xhat0 := Lib.hid hat0
  have Xhls := Lib.hid hls
  have Xk0 := Lib.hid k0
  have XhW0 := Lib.hid hW0
  clear hE hat0 hls k0 hW0
  cases b3
  · have hb4 : ¬ (body.length : Int) ≤ 256 := of_decide_eq_false hb3
    clear hb3
    go_enter Try.func53, Try.ntmps53
    go_wp2_with fail
    go_ret
    exact ⟨by rw [XhE.out]; rfl, by rw [XhW0.out]; exact Xk0.out.mono fun _ _ _ => trivial⟩
  · have hb4 : (body.length : Int) ≤ 256 := of_decide_eq_true hb3
    clear hb3
    cases bA
    all_goals go_enter Try.func53, Try.ntmps53
    all_goals go_wp2_with fail
    all_goals rw [XhW0.out]
    all_goals refine Xhat0.out.mono ?_
    all_goals (rintro e W1 ⟨rfl, k1⟩; have c2' := k1.cell c2 l0; have hz1 := k1.size; have kk : Keep (fun b => b < w.heap.size) w W1 := (Xk0.out.mono fun _ _ _ => trivial).trans (k1.mono fun b hb _ => (by omega)); clear k1 c2; have Xkk := Lib.hid kk; clear kk)
    · go_wp2_with fail
      go_ret
      exact ⟨by rw [XhE.out]; rfl, Xkk.out⟩
    · go_wp2_with fail
      refine (Xhls.out _ Xkk.out).mono ?_
      rintro e W2 ⟨rfl, k2⟩
      go_wp2_with fail
      go_ret
      exact ⟨by rw [XhE.out]; cases bL <;> rfl, Xkk.out.trans (k2.mono fun b hb _ => by omega)⟩

set_option maxRecDepth 100000 in
theorem refFormed_any (n : Nat) (r : RuleD) (hsm : smallR r) (sh sb : Value) (w : World) (hr : RuleIn n w sh sb r) (hn : n ≤ w.heap.size) : Calls Try.prog 56 #[ruleV r sh sb] w fun e w' => e = .returned (.bool (formedB r)) ∧ Keep (fun b => b < w.heap.size) w w' := by
  obtain ⟨⟨pr, args⟩, body⟩ := r
  obtain ⟨hh, hb⟩ := hr
  unfold ruleV
  simp only at hh hb ⊢
  have hE : formedB ⟨⟨pr, args⟩, body⟩ = (decide (body.length ≤ 256) && atomB ⟨pr, args⟩ && body.all litB) := rfl
  have hat := fun W (hK : Keep (fun _ => True) w W) => refAtom_any n ⟨pr, args⟩ hsm.1 sh W (terms_keep hh (hK.mono fun _ _ _ => trivial)) (by have := hK.size; omega)
  have hli := fun x (hx : x ∈ body) W (hK : Keep (fun b => b < w.heap.size) w W) sa (hsa : TermsIn n w sa x.atom.args) => refLit_any n x (hsm.2 x hx) sa W (terms_keep hsa (hK.mono fun _ _ _ => by omega)) (by have := hK.size; omega)
  obtain ⟨bA, hbA⟩ : ∃ b, atomB ⟨pr, args⟩ = b := ⟨_, rfl⟩
  rw [hbA, show decide (body.length ≤ 256) = decide ((body.length : Int) ≤ 256) from by rw [decide_eq_decide]; omega] at hE
  simp only [hbA] at hat
  obtain ⟨aa, ca, rfl, -, -, -⟩ := id hh
  obtain ⟨ab, cb, rfl, hlb, hcb, hel⟩ := id hb
  obtain ⟨nb, hnb⟩ : ∃ nb, w.heap.size = nb := ⟨_, rfl⟩
  obtain ⟨W0, hW0⟩ : ∃ W0, w.alloc (.cells #[.string pr, .slice aa args.length ca, .slice ab body.length cb] 28) = W0 := ⟨_, rfl⟩
  have k0 : Keep (fun _ => True) w W0 := by rw [← hW0]; exact Keep.alloc _ _ _
  have hz := k0.size
  have c2 : W0.cell? ⟨nb, 2, none⟩ = some (.slice ab body.length cb) := by rw [← hW0, ← hnb]; simp
  have l0 : nb < W0.heap.size := by rw [← hW0, ← hnb]; simp
  have hat0 := hat W0 k0
  clear hh hb hbA hat hsm
  obtain ⟨b3, hb3⟩ : ∃ b, decide ((body.length : Int) ≤ 256) = b := ⟨_, rfl⟩
  rw [hb3] at hE
  have XhE := Lib.hid hE
  have Xhat0 := Lib.hid hat0
  have Xhli := Lib.hid hli
  have Xk0 := Lib.hid k0
  have XhW0 := Lib.hid hW0
  have Xhel := Lib.hid hel
  have Xhnb := Lib.hid hnb
  clear hE hat0 hli k0 hW0 hel hnb
  cases b3
  · have hb4 : ¬ (body.length : Int) ≤ 256 := of_decide_eq_false hb3
    have hb5 : 256 < (body.length : Int) := by omega
    clear hb3
    go_enter Try.func56, Try.ntmps56
    go_wp2_with fail
    go_ret
    exact ⟨by rw [XhE.out]; rfl, by rw [XhW0.out]; exact Xk0.out.mono fun _ _ _ => trivial⟩
  · have hb4 : (body.length : Int) ≤ 256 := of_decide_eq_true hb3
    have hb5 : ¬ 256 < (body.length : Int) := by omega
    clear hb3
    cases bA
    all_goals go_enter Try.func56, Try.ntmps56
    all_goals go_wp2_with fail
    all_goals rw [XhW0.out, Xhnb.out]
    all_goals refine Xhat0.out.mono ?_
    all_goals (rintro e W1 ⟨rfl, k1⟩; have c2' := k1.cell c2 l0; have hz1 := k1.size; have kk : Keep (fun b => b < nb) w W1 := (Xk0.out.mono fun _ _ _ => trivial).trans (k1.mono fun b hb _ => (by have := Xhnb.out; omega)); have l1 : nb < W1.heap.size := (by omega); clear k1 c2; have Xkk := Lib.hid kk; clear kk)
    · go_wp2_with fail
      go_ret
      exact ⟨by rw [XhE.out]; rfl, Xkk.out.mono fun b _ _ => by have := Xhnb.out; omega⟩
    · go_wp2_with fail
      have Xc2 := Lib.hid c2'
      clear c2'
      go_loopw [3] (fun i wr => ∃ k : Nat, k ≤ body.length ∧ i = .int .i64 (k : Int) ∧ Keep (fun b => b < W1.heap.size) W1 wr ∧ (body.take k).all litB = true) (fun i _ => body.length - (intOf i).toNat)
      case atStart => exact ⟨0, by omega, rfl, Keep.refl _ _, rfl⟩
      case round =>
        obtain ⟨k, hk, rfl, hK, hall⟩ := hrel
        have hsz := hK.size
        have c2 := hK.cell Xc2.out l1
        have lr : nb < wr.heap.size := by omega
        have kww : Keep (fun b => b < nb) w wr := Xkk.out.trans (hK.mono fun b hb _ => by have := Xkk.out.size; have := Xhnb.out; omega)
        by_cases hlt : k < body.length
        · have hlt1 : (k : Int) < body.length := by omega
          have hk0 : (0 : Int) ≤ k := by omega
          obtain ⟨x, hx⟩ : ∃ x, body[k]? = some x := ⟨_, List.getElem?_eq_getElem hlt⟩
          obtain ⟨b, o, rfl, hb, sa, hcl, hsa⟩ := Xhel.out k x hx
          obtain ⟨asa, csa, rfl, -, -, -⟩ := id hsa
          have hbn : b < nb := by have := Xhnb.out; omega
          have g : ∀ j v, (litCells x (.slice asa x.atom.args.length csa))[j]? = some v → wr.cell? ⟨b, o + k * 7 + j, none⟩ = some v := fun j v h => kww.cell (hcl j v h) hbn
          have d0 := g 0 _ rfl
          have d1 := g 1 _ rfl
          have d2 := g 2 _ rfl
          have d3 := g 3 _ rfl
          have d4 := g 4 _ rfl
          have d5 := g 5 _ rfl
          have d6 := g 6 _ rfl
          simp only [Nat.add_zero] at d0
          have hbw : b < wr.heap.size := by omega
          have hst2 := all_step litB body hx
          rw [hall, Bool.true_and] at hst2
          have hno := all_not litB body hx
          have ht := Xhli.out x (List.mem_of_getElem? hx) wr (kww.mono fun b _ _ => by have := Xhnb.out; omega) _ hsa
          unfold litV at ht
          obtain ⟨px, hpx⟩ : ∃ b, litB x = b := ⟨_, rfl⟩
          rw [hpx] at hst2 ht hno
          clear g hcl hsa hall hx hpx
          have XhK := Lib.hid hK
          have Xhst2 := Lib.hid hst2
          have Xht := Lib.hid ht
          have Xhno := Lib.hid hno
          have Xkww := Lib.hid kww
          clear hK hst2 ht hno kww
          cases px
          · go_wp2_with fail
            refine Xht.out.mono ?_
            rintro e W2 ⟨rfl, k2⟩
            go_wp2_with fail
            go_ret
            exact ⟨by rw [XhE.out, Xhno.out (by trivial), Bool.and_false]; rfl, Xkww.out.trans (k2.mono fun b hb h => by omega) |>.mono fun b _ _ => by have := Xhnb.out; omega⟩
          · go_wp2_with fail
            refine Xht.out.mono ?_
            rintro e W2 ⟨rfl, k2⟩
            have hK1 := XhK.out.trans (k2.mono fun b hb _ => by omega)
            clear k2
            have XhK1 := Lib.hid hK1
            clear hK1
            go_wp2_with fail
            go_roundw
            case rel => exact ⟨k + 1, by omega, by go_num, XhK1.out, Xhst2.out⟩
            case measure => simp [intOf]; omega
        · obtain rfl : k = body.length := by omega
          rw [List.take_length] at hall
          have hE2 : formedB ⟨⟨pr, args⟩, body⟩ = true := by rw [XhE.out, hall]; rfl
          clear hall
          have XhK := Lib.hid hK
          have Xkww := Lib.hid kww
          have XhE2 := Lib.hid hE2
          clear hK kww hE2
          go_wp2_with fail
          go_ret
          exact ⟨by rw [XhE2.out]; rfl, Xkww.out.mono fun b _ _ => by have := Xhnb.out; omega⟩
end Go.Proofs
