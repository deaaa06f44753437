/- Layer 16 (plan): terms, atoms, literals, rules in form: the program and the document. -/
import Derived.Test.YtichfebfcapnhaaProg
import Derived.Test.YtichfebfcapnhaaPnB
import Derived.Test.YtichfebfcapnhaaPnC
import Derived.Laws.StructEq
namespace Go.Proofs
open Go.RowKit Go.Ink
set_option linter.unusedVariables false
set_option linter.unusedSimpArgs false
attribute [local go_sem] Oper.semAt_some

def termB (t : TermD) : Bool := if t.var then varB t.text else constB t.text
def smallT (t : TermD) : Prop := t.text.size ≤ 1073741824
def noTerm (t : TermD) : Bool := !t.var && decide (t.text = ⟨#[]⟩)
def termV (t : TermD) : Value := .agg #[.bool t.var, .string t.text]

set_option maxRecDepth 100000 in
theorem term_any (t : TermD) (w : World) : Calls Try.prog 97 #[termV t] w fun e w' => e = .returned (.bool (termB t)) ∧ Keep (fun _ => True) w w' := by
  obtain ⟨v, s⟩ := t
  unfold termV
  simp only
  have h1 := fun w => lexVar_any s w
  have h2 := fun w => lexConst_any s w
  have hE : termB ⟨v, s⟩ = if v then varB s else constB s := rfl
  obtain ⟨b1, hb1⟩ : ∃ b, varB s = b := ⟨_, rfl⟩
  obtain ⟨b2, hb2⟩ : ∃ b, constB s = b := ⟨_, rfl⟩
  rw [hb1, hb2] at hE
  simp only [hb1] at h1
  simp only [hb2] at h2
  have Xh1 := Lib.hid h1
  have Xh2 := Lib.hid h2
  have XhE := Lib.hid hE
  have Xhb1 := Lib.hid hb1
  have Xhb2 := Lib.hid hb2
  clear h1 h2 hE hb1 hb2
  cases v
  · go_enter Try.func97, Try.ntmps97
    go_wp2_with fail
    refine (Xh2.out _).mono ?_
    rintro e w1 ⟨rfl, hw1⟩; have hw1 := hw1.symm; subst hw1
    go_wp2_with fail
    go_ret
    exact ⟨by rw [XhE.out]; rfl, Keep.alloc _ _ _⟩
  · cases b1
    all_goals go_enter Try.func97, Try.ntmps97
    all_goals go_wp2_with fail
    all_goals refine (Xh1.out _).mono ?_
    all_goals (rintro e w1 ⟨rfl, hw1⟩; have hw1 := hw1.symm; subst hw1)
    all_goals go_wp2_with fail
    all_goals go_ret
    all_goals exact ⟨by rw [XhE.out]; rfl, Keep.alloc _ _ _⟩
set_option maxRecDepth 100000 in
theorem refTerm_any (t : TermD) (hs : smallT t) (w : World) : Calls Try.prog 99 #[termV t] w fun e w' => e = .returned (.bool (termB t)) ∧ Keep (fun _ => True) w w' := by
  obtain ⟨v, s⟩ := t
  unfold termV
  simp only
  have h1 := fun w => refVar_any s hs w
  have h2 := fun w => refConst_any s w
  have hE : termB ⟨v, s⟩ = if v then varB s else constB s := rfl
  obtain ⟨b1, hb1⟩ : ∃ b, varB s = b := ⟨_, rfl⟩
  obtain ⟨b2, hb2⟩ : ∃ b, constB s = b := ⟨_, rfl⟩
  rw [hb1, hb2] at hE
  simp only [hb1] at h1
  simp only [hb2] at h2
  clear hs
  have Xh1 := Lib.hid h1
  have Xh2 := Lib.hid h2
  have XhE := Lib.hid hE
  have Xhb1 := Lib.hid hb1
  have Xhb2 := Lib.hid hb2
  clear h1 h2 hE hb1 hb2
  cases v
  · go_enter Try.func99, Try.ntmps99
    go_wp2_with fail
    refine (Xh2.out _).mono ?_
    rintro e w1 ⟨rfl, hw1⟩; have hw1 := hw1.symm; subst hw1
    go_wp2_with fail
    go_ret
    exact ⟨by rw [XhE.out]; rfl, Keep.alloc _ _ _⟩
  · go_enter Try.func99, Try.ntmps99
    go_wp2_with fail
    refine (Xh1.out _).mono ?_
    rintro e w1 ⟨rfl, hw1⟩; have hw1 := hw1.symm; subst hw1
    go_wp2_with fail
    go_ret
    exact ⟨by rw [XhE.out]; rfl, Keep.alloc _ _ _⟩

set_option maxRecDepth 100000 in
theorem notTerm_any (t : TermD) (w : World) : Calls Try.prog 96 #[termV t] w fun e w' => e = .returned (.bool (!termB t)) ∧ Keep (fun _ => True) w w' := by
  have h := fun w => term_any t w
  obtain ⟨v, s⟩ := t
  unfold termV at h ⊢
  simp only at h ⊢
  obtain ⟨b1, hb1⟩ : ∃ b, termB ⟨v, s⟩ = b := ⟨_, rfl⟩
  simp only [hb1] at h
  rw [hb1]
  have Xh := Lib.hid h
  have Xhb1 := Lib.hid hb1
  clear h hb1
  go_enter Try.func96, Try.ntmps96
  go_wp2_with fail
  refine (Xh.out _).mono ?_
  rintro e w1 ⟨rfl, k1⟩
  go_wp2_with fail
  go_ret
  exact ⟨rfl, (Keep.alloc _ _ _).trans k1⟩

def atomB (a : AtomD) : Bool := nameB a.pred && decide (a.args.length ≤ 16) && a.args.all termB
def smallA (a : AtomD) : Prop := a.pred.size ≤ 1073741824 ∧ ∀ t, t ∈ a.args → smallT t
theorem any_not {α : Type} (p : α → Bool) (l : List α) : l.any (fun x => !p x) = !l.all p := by
  induction l with
  | nil => rfl
  | cons x r ih => simp only [List.any_cons, List.all_cons, ih, Bool.not_and]
set_option maxRecDepth 100000 in
theorem atom_any (n : Nat) (a : AtomD) (sa : Value) (w : World) (ha : TermsIn n w sa a.args) (hn : n ≤ w.heap.size) : Calls Try.prog 83 #[.agg #[.string a.pred, sa]] w fun e w' => e = .returned (.bool (atomB a)) ∧ Keep (fun b => b < w.heap.size) w w' := by
  obtain ⟨pr, args⟩ := a
  simp only at ha ⊢
  have h1 := fun w => lexName_any pr w
  have hE : atomB ⟨pr, args⟩ = (nameB pr && decide (args.length ≤ 16) && args.all termB) := rfl
  obtain ⟨b1, hb1⟩ : ∃ b, nameB pr = b := ⟨_, rfl⟩
  have hany := any_not termB args
  obtain ⟨b2, hb2⟩ : ∃ b, args.all termB = b := ⟨_, rfl⟩
  rw [hb2] at hany
  obtain ⟨W0, hW0⟩ : ∃ W0, w.alloc (.cells #[.string pr, sa] 25) = W0 := ⟨_, rfl⟩
  have k0 : Keep (fun _ => True) w W0 := by rw [← hW0]; exact Keep.alloc _ _ _
  have hz := k0.size
  have h2 := hasTerms_any (gf := 96) (bs := #[]) (lb := #[]) (enters Try.func96 (by kernel_rfl) rfl) (fun t => !termB t) n sa args W0 (terms_keep ha (k0.mono fun _ _ _ => trivial)) (by omega)
    (fun x _ W _ => (notTerm_any x W).mono fun e w' ⟨e1, k1⟩ => ⟨e1, k1.mono fun _ _ _ => trivial⟩)
  rw [hany] at h2
  rw [hb1, hb2] at hE
  simp only [hb1] at h1
  obtain ⟨aa, ca, rfl, hla, hca, hea⟩ := id ha
  have c1 : W0.cell? ⟨w.heap.size, 1, none⟩ = some (.slice aa args.length ca) := by rw [← hW0]; simp
  have l0 : w.heap.size < W0.heap.size := by rw [← hW0]; simp
  clear hea ha hany
  have hint : decide (args.length ≤ 16) = decide ((args.length : Int) ≤ 16) := by rw [decide_eq_decide]; omega
  rw [hint] at hE
  obtain ⟨b3, hb3⟩ : ∃ b, decide ((args.length : Int) ≤ 16) = b := ⟨_, rfl⟩
  rw [hb3] at hE
  clear hint
  have Xh1 := Lib.hid h1
  have Xh2 := Lib.hid h2
  have XhE := Lib.hid hE
  have Xhb1 := Lib.hid hb1
  have Xhb2 := Lib.hid hb2
  have Xk0 := Lib.hid k0
  have XhW0 := Lib.hid hW0
  clear h1 h2 hE hb1 hb2 k0 hW0
  cases b1
  · go_enter Try.func83, Try.ntmps83
    go_wp2_with fail
    rw [XhW0.out]
    refine (Xh1.out _).mono ?_
    rintro e w1 ⟨rfl, hw1⟩; have hw1 := hw1.symm; subst hw1
    go_wp2_with fail
    go_ret
    exact ⟨by rw [XhE.out]; rfl, Xk0.out.mono fun _ _ _ => trivial⟩
  · cases b3
    · have hb4 : ¬ (args.length : Int) ≤ 16 := of_decide_eq_false hb3
      clear hb3
      go_enter Try.func83, Try.ntmps83
      go_wp2_with fail
      rw [XhW0.out]
      refine (Xh1.out _).mono ?_
      rintro e w1 ⟨rfl, hw1⟩; have hw1 := hw1.symm; subst hw1
      go_wp2_with fail
      go_ret
      exact ⟨by rw [XhE.out]; rfl, Xk0.out.mono fun _ _ _ => trivial⟩
    · have hb4 : (args.length : Int) ≤ 16 := of_decide_eq_true hb3
      clear hb3
      go_enter Try.func83, Try.ntmps83
      go_wp2_with fail
      rw [XhW0.out]
      refine (Xh1.out _).mono ?_
      rintro e w1 ⟨rfl, hw1⟩; have hw1 := hw1.symm; subst hw1
      go_wp2_with fail
      refine Xh2.out.mono ?_
      rintro e W1 ⟨rfl, k1⟩
      go_wp2_with fail
      go_ret
      exact ⟨by rw [XhE.out]; cases b2 <;> rfl, Xk0.out.trans (k1.mono fun b hb _ => by omega) |>.mono fun b hb _ => trivial⟩
end Go.Proofs
