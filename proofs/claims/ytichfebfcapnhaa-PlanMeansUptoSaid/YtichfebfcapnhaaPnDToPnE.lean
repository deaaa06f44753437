/- Layer 16 (plan): terms, atoms, literals, rules in form: the program and the document. -/
import Derived.Test.YtichfebfcapnhaaProg
import Derived.Test.YtichfebfcapnhaaPnB
import Derived.Test.YtichfebfcapnhaaPnC
import Derived.Laws.StructEq
namespace Go.Proofs
open Go.RowKit Go.Ink
set_option linter.unusedVariables false
set_option linter.unusedSimpArgs false
attribute [local go_sem] Oper.semAt_some

def termB (t : TermD) : Bool := if t.var then varB t.text else constB t.text
def smallT (t : TermD) : Prop := t.text.size ≤ 1073741824
def noTerm (t : TermD) : Bool := !t.var && decide (t.text = ⟨#[]⟩)
def termV (t : TermD) : Value := .agg #[.bool t.var, .string t.text]

set_option maxRecDepth 100000 in
theorem term_any (t : TermD) (w : World) : Calls Try.prog 97 #[termV t] w fun e w' => e = .returned (.bool (termB t)) ∧ Keep (fun _ => True) w w' := by
  obtain ⟨v, s⟩ := t
  unfold termV
  simp only
  have h1 := fun w => lexVar_any s w
  have h2 := fun w => lexConst_any s w
  have hE : termB ⟨v, s⟩ = if v then varB s else constB s := rfl
  obtain ⟨b1, hb1⟩ : ∃ b, varB s = b := ⟨_, rfl⟩
  obtain ⟨b2, hb2⟩ : ∃ b, constB s = b := ⟨_, rfl⟩
  rw [hb1, hb2] at hE
  simp only [hb1] at h1
  simp only [hb2] at h2
  have Xh1 := Lib.hid h1
  have Xh2 := Lib.hid h2
  have XhE := Lib.hid hE
  have Xhb1 := Lib.hid hb1
  have Xhb2 := Lib.hid hb2
  clear h1 h2 hE hb1 hb2
  cases v
  · go_enter Try.func97, Try.ntmps97
    go_wp2_with fail
    refine (Xh2.out _).mono ?_
    rintro e w1 ⟨rfl, hw1⟩; have hw1 := hw1.symm; subst hw1
    go_wp2_with fail
    go_ret
    exact ⟨by rw [XhE.out]; rfl, Keep.alloc _ _ _⟩
  · cases b1
    all_goals go_enter Try.func97, Try.ntmps97
    all_goals go_wp2_with fail
    all_goals refine (Xh1.out _).mono ?_
    all_goals (rintro e w1 ⟨rfl, hw1⟩; have hw1 := hw1.symm; subst hw1)
    all_goals go_wp2_with fail
    all_goals go_ret
    all_goals exact ⟨by rw [XhE.out]; rfl, Keep.alloc _ _ _⟩
set_option maxRecDepth 100000 in
theorem refTerm_any (t : TermD) (hs : smallT t) (w : World) : Calls Try.prog 99 #[termV t] w fun e w' => e = .returned (.bool (termB t)) ∧ Keep (fun _ => True) w w' := by
  obtain ⟨v, s⟩ := t
  unfold termV
  simp only
  have h1 := fun w => refVar_any s hs w
  have h2 := fun w => refConst_any s w
  have hE : termB ⟨v, s⟩ = if v then varB s else constB s := rfl
  obtain ⟨b1, hb1⟩ : ∃ b, varB s = b := ⟨_, rfl⟩
  obtain ⟨b2, hb2⟩ : ∃ b, constB s = b := ⟨_, rfl⟩
  rw [hb1, hb2] at hE
  simp only [hb1] at h1
  simp only [hb2] at h2
  clear hs
  have Xh1 := Lib.hid h1
  have Xh2 := Lib.hid h2
  have XhE := Lib.hid hE
  have Xhb1 := Lib.hid hb1
  have Xhb2 := Lib.hid hb2
  clear h1 h2 hE hb1 hb2
  cases v
  · go_enter Try.func99, Try.ntmps99
    go_wp2_with fail
    refine (Xh2.out _).mono ?_
    rintro e w1 ⟨rfl, hw1⟩; have hw1 := hw1.symm; subst hw1
    go_wp2_with fail
    go_ret
    exact ⟨by rw [XhE.out]; rfl, Keep.alloc _ _ _⟩
  · go_enter Try.func99, Try.ntmps99
    go_wp2_with fail
    refine (Xh1.out _).mono ?_
    rintro e w1 ⟨rfl, hw1⟩; have hw1 := hw1.symm; subst hw1
    go_wp2_with fail
    go_ret
    exact ⟨by rw [XhE.out]; rfl, Keep.alloc _ _ _⟩

set_option maxRecDepth 100000 in
theorem notTerm_any (t : TermD) (w : World) : Calls Try.prog 96 #[termV t] w fun e w' => e = .returned (.bool (!termB t)) ∧ Keep (fun _ => True) w w' := by
  have h := fun w => term_any t w
  obtain ⟨v, s⟩ := t
  unfold termV at h ⊢
  simp only at h ⊢
  obtain ⟨b1, hb1⟩ : ∃ b, termB ⟨v, s⟩ = b := ⟨_, rfl⟩
  simp only [hb1] at h
  rw [hb1]
  have Xh := Lib.hid h
  have Xhb1 := Lib.hid hb1
  clear h hb1
  go_enter Try.func96, Try.ntmps96
  go_wp2_with fail
  refine (Xh.out _).mono ?_
  rintro e w1 ⟨rfl, k1⟩
  go_wp2_with fail
  go_ret
  exact ⟨rfl, (Keep.alloc _ _ _).trans k1⟩

def atomB (a : AtomD) : Bool := nameB a.pred && decide (a.args.length ≤ 16) && a.args.all termB
def smallA (a : AtomD) : Prop := a.pred.size ≤ 1073741824 ∧ ∀ t, t ∈ a.args → smallT t
theorem any_not {α : Type} (p : α → Bool) (l : List α) : l.any (fun x => !p x) = !l.all p := by
  induction l with
  | nil => rfl
  | cons x r ih => simp only [List.any_cons, List.all_cons, ih, Bool.not_and]
set_option maxRecDepth 100000 in
theorem atom_any (n : Nat) (a : AtomD) (sa : Value) (w : World) (ha : TermsIn n w sa a.args) (hn : n ≤ w.heap.size) : Calls Try.prog 83 #[.agg #[.string a.pred, sa]] w fun e w' => e = .returned (.bool (atomB a)) ∧ Keep (fun b => b < w.heap.size) w w' := by
  obtain ⟨pr, args⟩ := a
  simp only at ha ⊢
  have h1 := fun w => lexName_any pr w
  have hE : atomB ⟨pr, args⟩ = (nameB pr && decide (args.length ≤ 16) && args.all termB) := rfl
  obtain ⟨b1, hb1⟩ : ∃ b, nameB pr = b := ⟨_, rfl⟩
  have hany := any_not termB args
  obtain ⟨b2, hb2⟩ : ∃ b, args.all termB = b := ⟨_, rfl⟩
  rw [hb2] at hany
  obtain ⟨W0, hW0⟩ : ∃ W0, w.alloc (.cells #[.string pr, sa] 25) = W0 := ⟨_, rfl⟩
  have k0 : Keep (fun _ => True) w W0 := by rw [← hW0]; exact Keep.alloc _ _ _
  have hz := k0.size
  have h2 := hasTerms_any (gf := 96) (bs := #[]) (lb := #[]) (enters Try.func96 (by kernel_rfl) rfl) (fun t => !termB t) n sa args W0 (terms_keep ha (k0.mono fun _ _ _ => trivial)) (by omega)
    (fun x _ W _ => (notTerm_any x W).mono fun e w' ⟨e1, k1⟩ => ⟨e1, k1.mono fun _ _ _ => trivial⟩)
  rw [hany] at h2
  rw [hb1, hb2] at hE
  simp only [hb1] at h1
  obtain ⟨aa, ca, rfl, hla, hca, hea⟩ := id ha
  have c1 : W0.cell? ⟨w.heap.size, 1, none⟩ = some (.slice aa args.length ca) := by rw [← hW0]; simp
  have l0 : w.heap.size < W0.heap.size := by rw [← hW0]; simp
  clear hea ha hany
  have hint : decide (args.length ≤ 16) = decide ((args.length : Int) ≤ 16) := by rw [decide_eq_decide]; omega
  rw [hint] at hE
  obtain ⟨b3, hb3⟩ : ∃ b, decide ((args.length : Int) ≤ 16) = b := ⟨_, rfl⟩
  rw [hb3] at hE
  clear hint
  have Xh1 := Lib.hid h1
  have Xh2 := Lib.hid h2
  have XhE := Lib.hid hE
  have Xhb1 := Lib.hid hb1
  have Xhb2 := Lib.hid hb2
  have Xk0 := Lib.hid k0
  have XhW0 := Lib.hid hW0
  clear h1 h2 hE hb1 hb2 k0 hW0
  cases b1
  · go_enter Try.func83, Try.ntmps83
    go_wp2_with fail
    rw [XhW0.out]
    refine (Xh1.out _).mono ?_
    rintro e w1 ⟨rfl, hw1⟩; have hw1 := hw1.symm; subst hw1
    go_wp2_with fail
    go_ret
    exact ⟨by rw [XhE.out]; rfl, Xk0.out.mono fun _ _ _ => trivial⟩
  · cases b3
    · have hb4 : ¬ (args.length : Int) ≤ 16 := of_decide_eq_false hb3
      clear hb3
      go_enter Try.func83, Try.ntmps83
      go_wp2_with fail
      rw [XhW0.out]
      refine (Xh1.out _).mono ?_
      rintro e w1 ⟨rfl, hw1⟩; have hw1 := hw1.symm; subst hw1
      go_wp2_with fail
      go_ret
      exact ⟨by rw [XhE.out]; rfl, Xk0.out.mono fun _ _ _ => trivial⟩
    · have hb4 : (args.length : Int) ≤ 16 := of_decide_eq_true hb3
      clear hb3
      go_enter Try.func83, Try.ntmps83
      go_wp2_with fail
      rw [XhW0.out]
      refine (Xh1.out _).mono ?_
      rintro e w1 ⟨rfl, hw1⟩; have hw1 := hw1.symm; subst hw1
      go_wp2_with fail
      refine Xh2.out.mono ?_
      rintro e W1 ⟨rfl, k1⟩
      go_wp2_with fail
      go_ret
      exact ⟨by rw [XhE.out]; cases b2 <;> rfl, Xk0.out.trans (k1.mono fun b hb _ => by omega) |>.mono fun b hb _ => trivial⟩
end Go.Proofs

/- Layer 16 (plan): literals and rules in form: the program and the document (printed by wip/tools/cc/gen_pne.py). -/
namespace Go.Proofs
open Go.RowKit Go.Ink
set_option linter.unusedVariables false
set_option linter.unusedSimpArgs false
attribute [local go_sem] Oper.semAt_some

theorem eql_term (t u : TermD) (W : World) : (binOp .eql 76 (termV t) (termV u)).run Try.prog W = .ok (.bool (decide (t = u))) W := by
  obtain ⟨a, s⟩ := t
  obtain ⟨b, r⟩ := u
  have e : (s.toList = r.toList) = (s = r) := by rw [bytes_eq, beq_iff_eq]
  unfold termV
  simp [go_sem, e]
  by_cases h1 : a = b <;> by_cases h2 : s = r <;> simp [h1, h2]
theorem bytes_nil {a : ByteArray} (h : a ≠ ⟨#[]⟩) : ¬ a.toList = [] := fun e => by
  have := bytes_other h
  have e2 : (⟨#[]⟩ : ByteArray).toList = [] := by kernel_rfl
  rw [e, e2] at this
  cases this
def tNone : TermD := ⟨false, ⟨#[]⟩⟩
def litB (L : LitD) : Bool :=
  if L.kind = 1 ∨ L.kind = 2 then atomB L.atom && decide (L.left = tNone) && decide (L.right = tNone)
  else if L.kind = 3 then decide (L.atom.pred = ⟨#[]⟩) && decide (L.atom.args.length = 0) && termB L.left && termB L.right
  else false
def smallL (L : LitD) : Prop := smallA L.atom ∧ smallT L.left ∧ smallT L.right

set_option maxRecDepth 100000 in
theorem refAtom_any (n : Nat) (a : AtomD) (hsm : smallA a) (sa : Value) (w : World) (ha : TermsIn n w sa a.args) (hn : n ≤ w.heap.size) : Calls Try.prog 87 #[.agg #[.string a.pred, sa]] w fun e w' => e = .returned (.bool (atomB a)) ∧ Keep (fun b => b < w.heap.size) w w' := by
  obtain ⟨pr, args⟩ := a
  simp only at ha ⊢
  have hE : atomB ⟨pr, args⟩ = (nameB pr && decide (args.length ≤ 16) && args.all termB) := rfl
  have h1 := fun w => refName_any pr hsm.1 w
  have hst := hsm.2
  simp only at hst
  obtain ⟨b1, hb1⟩ : ∃ b, nameB pr = b := ⟨_, rfl⟩
  rw [hb1] at hE
  simp only [hb1] at h1
  obtain ⟨nb, hnb⟩ : ∃ nb, w.heap.size = nb := ⟨_, rfl⟩
  obtain ⟨aa, ca, rfl, hla, hca, hea⟩ := id ha
  obtain ⟨W0, hW0⟩ : ∃ W0, w.alloc (.cells #[.string pr, .slice aa args.length ca] 25) = W0 := ⟨_, rfl⟩
  have k0 : Keep (fun _ => True) w W0 := by rw [← hW0]; exact Keep.alloc _ _ _
  have b0 : W0.heap[nb]? = some (.cells #[.string pr, .slice aa args.length ca] 25 (0, 0)) := by rw [← hW0, ← hnb]; exact new_block _ _
  have l0 : nb < W0.heap.size := heap_lt b0
  have hint : decide (args.length ≤ 16) = decide ((args.length : Int) ≤ 16) := by rw [decide_eq_decide]; omega
  rw [hint] at hE
  clear hint hsm ha
  have Xh1 := Lib.hid h1
  have XhE := Lib.hid hE
  have Xhb1 := Lib.hid hb1
  have Xk0 := Lib.hid k0
  have XhW0 := Lib.hid hW0
  have Xhst := Lib.hid hst
  have Xhea := Lib.hid hea
  have Xhnb := Lib.hid hnb
  have Xb0 := Lib.hid b0
  clear h1 hE hb1 k0 hW0 hst hea hnb b0
  go_enter Try.func87, Try.ntmps87
  go_wp2_with fail
  rw [XhW0.out, Xhnb.out]
  go_loopw [3] (fun i wr => ∃ k : Nat, k ≤ args.length ∧ i = .int .i64 (k : Int) ∧ Keep (fun b => b < W0.heap.size) W0 wr ∧ (args.take k).all termB = true) (fun i _ => args.length - (intOf i).toNat)
  case atStart => exact ⟨0, by omega, rfl, Keep.refl _ _, rfl⟩
  case round =>
    obtain ⟨k, hk, rfl, hK, hall⟩ := hrel
    have hsz := hK.size
    have hbx := hK.heap Xb0.out l0
    have c0 := cells_of_block hbx 0 _ rfl
    have c1 := cells_of_block hbx 1 _ rfl
    simp only [Nat.zero_add] at c0 c1
    have lr : nb < wr.heap.size := by omega
    have kww := Xk0.out.trans (hK.mono fun b _ _ => by omega)
    clear hbx
    by_cases hlt : k < args.length
    · have hlt1 : (k : Int) < args.length := by omega
      have hk0 : (0 : Int) ≤ k := by omega
      obtain ⟨x, hx⟩ : ∃ x, args[k]? = some x := ⟨_, List.getElem?_eq_getElem hlt⟩
      obtain ⟨b, o, rfl, hb, q0, q1⟩ := Xhea.out k x hx
      have hbn : b < nb := by have := Xhnb.out; omega
      have h0 := hK.cell (Xk0.out.cell q0 trivial) (show b < W0.heap.size by omega)
      have h1 := hK.cell (Xk0.out.cell q1 trivial) (show b < W0.heap.size by omega)
      have hbw : b < wr.heap.size := by omega
      have hst2 := all_step termB args hx
      rw [hall, Bool.true_and] at hst2
      have ht := refTerm_any x (Xhst.out x (List.mem_of_getElem? hx)) wr
      unfold termV at ht
      cases hp : termB x with
      | false =>
        rw [hp] at ht
        have hno := all_not termB args hx hp
        clear q0 q1 kww
        have XhK := Lib.hid hK
        have Xhall := Lib.hid hall
        have Xhst2 := Lib.hid hst2
        have Xht := Lib.hid ht
        have Xhp := Lib.hid hp
        have Xhno := Lib.hid hno
        have Xhx := Lib.hid hx
        clear hK hall hst2 ht hp hno hx
        go_wp2_with fail
        refine Xht.out.mono ?_
        rintro e W1 ⟨rfl, k1⟩
        go_wp2_with fail
        go_ret
        exact ⟨by rw [XhE.out, Xhno.out, Bool.and_false]; rfl, Xk0.out.trans ((XhK.out.trans (k1.mono fun _ _ _ => trivial)).mono fun b _ _ => by omega) |>.mono fun _ _ _ => trivial⟩
      | true =>
        rw [hp] at ht hst2
        clear q0 q1 kww
        have XhK := Lib.hid hK
        have Xhall := Lib.hid hall
        have Xhst2 := Lib.hid hst2
        have Xht := Lib.hid ht
        have Xhp := Lib.hid hp
        have Xhx := Lib.hid hx
        clear hK hall hst2 ht hp hx
        go_wp2_with fail
        refine Xht.out.mono ?_
        rintro e W1 ⟨rfl, k1⟩
        have hK1 := XhK.out.trans (k1.mono fun _ _ _ => trivial)
        clear k1
        have XhK1 := Lib.hid hK1
        clear hK1
        go_wp2_with fail
        go_roundw
        case rel => exact ⟨k + 1, by omega, by go_num, XhK1.out, Xhst2.out⟩
        case measure => simp [intOf]; omega
    · obtain rfl : k = args.length := by omega
      rw [List.take_length] at hall
      have hE2 : atomB ⟨pr, args⟩ = (b1 && decide ((args.length : Int) ≤ 16)) := by rw [XhE.out, hall, Bool.and_true]
      clear hall
      have XhK := Lib.hid hK
      have Xkww := Lib.hid kww
      have XhE2 := Lib.hid hE2
      clear hK kww hE2
      cases b1
      · go_wp2_with fail
        refine (Xh1.out _).mono ?_
        rintro e w1 ⟨rfl, hw1⟩; have hw1 := hw1.symm; subst hw1
        go_wp2_with fail
        go_ret
        exact ⟨by rw [XhE2.out]; rfl, Xkww.out.mono fun b hb _ => by have := Xhnb.out; omega⟩
      · go_wp2_with fail
        refine (Xh1.out _).mono ?_
        rintro e w1 ⟨rfl, hw1⟩; have hw1 := hw1.symm; subst hw1
        go_wp2_with fail
        go_ret
        exact ⟨by rw [XhE2.out]; rfl, Xkww.out.mono fun b hb _ => by have := Xhnb.out; omega⟩

set_option maxRecDepth 100000 in
set_option maxHeartbeats 2000000 in
theorem lit_any (n : Nat) (L : LitD) (sa : Value) (w : World) (ha : TermsIn n w sa L.atom.args) (hn : n ≤ w.heap.size) : Calls Try.prog 86 #[litV L sa] w fun e w' => e = .returned (.bool (litB L)) ∧ Keep (fun b => b < w.heap.size) w w' := by
  have hat := fun W (hW : TermsIn n W sa L.atom.args) (h2 : n ≤ W.heap.size) => atom_any n L.atom sa W hW h2
  have ht1 := fun W => term_any L.left W
  have ht2 := fun W => term_any L.right W
  have hq1 := fun W => eql_term L.left tNone W
  have hq2 := fun W => eql_term L.right tNone W
  have hL : litB L = if L.kind = 1 ∨ L.kind = 2 then atomB L.atom && decide (L.left = tNone) && decide (L.right = tNone) else if L.kind = 3 then decide (L.atom.pred = ⟨#[]⟩) && decide (L.atom.args.length = 0) && termB L.left && termB L.right else false := rfl
  obtain ⟨bA, hbA⟩ : ∃ b, atomB L.atom = b := ⟨_, rfl⟩
  obtain ⟨bq1, hbq1⟩ : ∃ b, decide (L.left = tNone) = b := ⟨_, rfl⟩
  obtain ⟨bq2, hbq2⟩ : ∃ b, decide (L.right = tNone) = b := ⟨_, rfl⟩
  obtain ⟨bt1, hbt1⟩ : ∃ b, termB L.left = b := ⟨_, rfl⟩
  obtain ⟨bt2, hbt2⟩ : ∃ b, termB L.right = b := ⟨_, rfl⟩
  obtain ⟨bl, hbl⟩ : ∃ b, litB L = b := ⟨_, rfl⟩
  rw [hbl]
  rw [hbl, hbA, hbq1, hbq2, hbt1, hbt2] at hL
  simp only [hbA] at hat
  simp only [hbt1] at ht1
  simp only [hbt2] at ht2
  simp only [hbq1] at hq1
  simp only [hbq2] at hq2
  clear hbl hbA hbq1 hbq2 hbt1 hbt2
  obtain ⟨k, ⟨pr, args⟩, ⟨lv, lt⟩, ⟨rv, rt⟩⟩ := L
  unfold litV
  unfold termV tNone at hq1 hq2
  unfold termV at ht1 ht2
  simp only at *
  obtain ⟨aa, ca, rfl, hla, hca, -⟩ := id ha
  obtain ⟨m, hm⟩ : ∃ m, args.length = m := ⟨_, rfl⟩
  rw [hm] at hL ha hat hla hca
  rw [hm]
  obtain ⟨nb, hnb⟩ : ∃ nb, w.heap.size = nb := ⟨_, rfl⟩
  obtain ⟨W0, hW0⟩ : ∃ W0, (w.alloc (.cells #[.int .i64 k, .string pr, .slice aa m ca, .bool lv, .string lt, .bool rv, .string rt] 78)).alloc (.cells #[.bool false, .string ⟨#[]⟩] 76) = W0 := ⟨_, rfl⟩
  have k0 : Keep (fun _ => True) w W0 := by rw [← hW0]; exact (Keep.alloc _ _ _).trans (Keep.alloc _ _ _)
  have b0 : W0.heap[nb]? = some (.cells #[.int .i64 k, .string pr, .slice aa m ca, .bool lv, .string lt, .bool rv, .string rt] 78 (0, 0)) := by rw [← hW0, ← hnb]; exact old_block (new_block _ _) _
  have b1 : W0.heap[nb + 1]? = some (.cells #[.bool false, .string ⟨#[]⟩] 76 (0, 0)) := by
    rw [← hW0, ← hnb]
    have := new_block (w.alloc (.cells #[.int .i64 k, .string pr, .slice aa m ca, .bool lv, .string lt, .bool rv, .string rt] 78)) (.cells #[.bool false, .string ⟨#[]⟩] 76)
    simpa using this
  have d0 := cells_of_block b1 0 _ rfl
  have d1 := cells_of_block b1 1 _ rfl
  have l1 := heap_lt b1
  simp only [Nat.zero_add] at d0 d1
  have l0 := heap_lt b0
  have hsz := k0.size
  have hat0 := hat W0 (terms_keep ha (k0.mono fun _ _ _ => trivial)) (by omega)
  have c0 := cells_of_block b0 0 _ rfl
  have c1 := cells_of_block b0 1 _ rfl
  have c2 := cells_of_block b0 2 _ rfl
  have c3 := cells_of_block b0 3 _ rfl
  have c4 := cells_of_block b0 4 _ rfl
  have c5 := cells_of_block b0 5 _ rfl
  have c6 := cells_of_block b0 6 _ rfl
  simp only [Nat.zero_add] at c0 c1 c2 c3 c4 c5 c6
  clear ha hat hla hca hm
  have XhL := Lib.hid hL
  have Xhat0 := Lib.hid hat0
  have Xht1 := Lib.hid ht1
  have Xht2 := Lib.hid ht2
  have Xk0 := Lib.hid k0
  have XhW0 := Lib.hid hW0
  have Xhnb := Lib.hid hnb
  have Xb0 := Lib.hid b0
  have Xb1 := Lib.hid b1
  clear hL hat0 ht1 ht2 k0 hW0 hnb b0 b1
  by_cases e12 : k = 1 ∨ k = 2
  · have hL2 : bl = (bA && bq1 && bq2) := by rw [XhL.out, if_pos e12]
    have XhL2 := Lib.hid hL2
    clear hL2
    rcases e12 with rfl | rfl
    all_goals cases bA
    all_goals (try cases bq1)
    all_goals go_enter Try.func86, Try.ntmps86
    all_goals go_wp2_with fail
    all_goals rw [XhW0.out, Xhnb.out]
    all_goals refine Xhat0.out.mono ?_
    all_goals (rintro e W1 ⟨rfl, k1⟩; have c3' := k1.cell c3 l0; have c4' := k1.cell c4 l0; have c5' := k1.cell c5 l0; have c6' := k1.cell c6 l0; have d0' := k1.cell d0 l1; have d1' := k1.cell d1 l1; have hz1 := k1.size; have l0' : nb < W1.heap.size := (by omega); have l1' : nb + 1 < W1.heap.size := (by omega); have kk : Keep (fun b => b < nb) w W1 := (Xk0.out.mono fun _ _ _ => trivial).trans (k1.mono fun b hb _ => (by omega)); clear k1 c0 c1 c2 c3 c4 c5 c6 d0 d1; have Xkk := Lib.hid kk; clear kk)
    all_goals go_wp2_with fail
    all_goals go_ret
    all_goals exact ⟨by rw [XhL2.out]; (try cases bq1) <;> (try cases bq2) <;> rfl, Xkk.out.mono fun b hb h => by have := Xhnb.out; omega⟩
  · by_cases e3 : k = 3
    · have hL3 : bl = (decide (pr = ⟨#[]⟩) && decide (m = 0) && bt1 && bt2) := by rw [XhL.out, if_neg e12, if_pos e3]
      subst e3
      by_cases hp : pr = ⟨#[]⟩
      · subst hp
        rw [show decide ((⟨#[]⟩ : ByteArray) = ⟨#[]⟩) = true from rfl, Bool.true_and] at hL3
        by_cases hn0 : m = 0
        · subst hn0
          rw [show decide (0 = 0) = true from rfl, Bool.true_and] at hL3
          have XhL3 := Lib.hid hL3
          have Xhq1 := Lib.hid hq1
          have Xhq2 := Lib.hid hq2
          clear hL3 hq1 hq2
          cases bt1
          all_goals go_enter Try.func86, Try.ntmps86
          all_goals go_wp2_with fail
          all_goals rw [XhW0.out]
          all_goals refine (Xht1.out _).mono ?_
          all_goals (rintro e W1 ⟨rfl, k1⟩; have c6' := k1.cell c6 trivial; have c5' := k1.cell c5 trivial; have l0' := k1.size; have kk : Keep (fun b => b < nb) w W1 := ((Xk0.out.mono fun _ _ _ => trivial).trans (k1.mono fun b hb _ => trivial)); clear k1 c0 c1 c2 c3 c4 c5 c6 d0 d1; have Xkk := Lib.hid kk; clear kk)
          · go_wp2_with fail
            go_ret
            exact ⟨by rw [XhL3.out]; rfl, Xkk.out.mono fun b hb h => by have := Xhnb.out; omega⟩
          · rw [Xhnb.out]
            go_wp2_with fail
            refine (Xht2.out _).mono ?_
            rintro e W2 ⟨rfl, k2⟩
            go_wp2_with fail
            go_ret
            exact ⟨by rw [XhL3.out]; rfl, (Xkk.out.trans (k2.mono fun _ _ _ => trivial)).mono fun b hb h => by have := Xhnb.out; omega⟩
        · have hn1 : ¬ (m : Int) = 0 := by omega
          rw [decide_eq_false hn0, Bool.false_and, Bool.false_and] at hL3
          have XhL3 := Lib.hid hL3
          have Xhq1 := Lib.hid hq1
          have Xhq2 := Lib.hid hq2
          clear hL3 hq1 hq2
          go_enter Try.func86, Try.ntmps86
          go_wp2_with fail
          go_ret
          exact ⟨by rw [XhL3.out]; rfl, by rw [XhW0.out]; exact Xk0.out.mono fun _ _ _ => trivial⟩
      · rw [decide_eq_false hp, Bool.false_and, Bool.false_and, Bool.false_and] at hL3
        have hp1 := bytes_nil hp
        have XhL3 := Lib.hid hL3
        have Xhq1 := Lib.hid hq1
        have Xhq2 := Lib.hid hq2
        clear hL3 hq1 hq2
        go_enter Try.func86, Try.ntmps86
        go_wp2_with fail
        go_ret
        exact ⟨by rw [XhL3.out]; rfl, by rw [XhW0.out]; exact Xk0.out.mono fun _ _ _ => trivial⟩
    · have hL4 : bl = false := by rw [XhL.out, if_neg e12, if_neg e3]
      have e1 : ¬ k = 1 := fun h => e12 (.inl h)
      have e2 : ¬ k = 2 := fun h => e12 (.inr h)
      clear e12
      have XhL4 := Lib.hid hL4
      have Xhq1 := Lib.hid hq1
      have Xhq2 := Lib.hid hq2
      clear hL4 hq1 hq2
      go_enter Try.func86, Try.ntmps86
      go_wp2_with fail
      go_ret
      exact ⟨by rw [XhL4.out]; rfl, by rw [XhW0.out]; exact Xk0.out.mono fun _ _ _ => trivial⟩
end Go.Proofs
