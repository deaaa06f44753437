/- Layer 16 (plan): known variables: open, terms, ready. -/
import Derived.Test.YtichfebfcapnhaaProg
import Derived.Test.YtichfebfcapnhaaPnD
import Derived.Test.YtichfebfcapnhaaOwn
namespace Go.Proofs
open Go.RowKit Go.Ink
set_option linter.unusedVariables false
set_option linter.unusedSimpArgs false
attribute [local go_sem] Oper.semAt_some

def openD (K : List ByteArray) (t : TermD) : Bool := t.var && !decide (t.text ∈ K)
def termsP (L : LitD) : List TermD := if L.kind = 3 then [L.left, L.right] else L.atom.args
def readyP (K : List ByteArray) (L : LitD) : Bool := decide (L.kind = 1) || !(termsP L).any (openD K)
theorem zero_bool (w : World) : (zeroValue 4).run Try.prog w = .ok (.bool false) w := by kernel_rfl
set_option maxRecDepth 100000 in
theorem open_any (M : Nat) (K : List ByteArray) (t : TermD) (w : World) (hS : SetIn w M K) : Calls Try.prog 68 #[.map (some M), termV t] w fun e w' => e = .returned (.bool (openD K t)) ∧ Keep (fun _ => True) w w' := by
  obtain ⟨v, s⟩ := t
  unfold termV
  simp only
  have hE : openD K ⟨v, s⟩ = (v && !decide (s ∈ K)) := rfl
  have hl := fun w (h : SetIn w M K) => run_lookup_set (P := Try.prog) (T := 86) (K := 9) (E := 4) Try.underlying86 Try.underlying9 zero_bool h s
  obtain ⟨b, hb⟩ : ∃ b, decide (s ∈ K) = b := ⟨_, rfl⟩
  rw [hb] at hE
  simp only [hb] at hl
  have hl0 := hl (w.alloc (.cells #[.bool v, .string s] 76)) (hS.keep (Keep.alloc (fun _ => True) _ _) trivial)
  clear hl hb
  have XhS := Lib.hid hS
  have XhE := Lib.hid hE
  clear hS hE
  cases v
  · clear hl0
    go_enter Try.func68, Try.ntmps68
    go_wp2_with fail
    go_ret
    exact ⟨by rw [XhE.out]; rfl, Keep.alloc _ _ _⟩
  · go_enter Try.func68, Try.ntmps68
    go_wp2_with fail
    go_ret
    exact ⟨by rw [XhE.out]; rfl, Keep.alloc _ _ _⟩

set_option maxRecDepth 100000 in
theorem pterms_any (n : Nat) (L : LitD) (sa : Value) (w : World) (ha : TermsIn n w sa L.atom.args) (hn : n ≤ w.heap.size) : Calls Try.prog 67 #[litV L sa] w fun e w' => ∃ sv, e = .returned sv ∧ TermsIn w'.heap.size w' sv (termsP L) ∧ Keep (fun _ => True) w w' := by
  obtain ⟨aa, ca, rfl, -, -, -⟩ := id ha
  obtain ⟨k, ⟨pr, args⟩, ⟨lv, lt⟩, ⟨rv, rt⟩⟩ := L
  unfold litV
  simp only at ha ⊢
  by_cases h3 : k = 3
  · subst h3
    have hT : termsP ⟨3, ⟨pr, args⟩, ⟨lv, lt⟩, ⟨rv, rt⟩⟩ = [⟨lv, lt⟩, ⟨rv, rt⟩] := rfl
    have Xha := Lib.hid ha
    have XhT := Lib.hid hT
    clear ha hT
    go_enter Try.func67, Try.ntmps67
    go_wp2_with fail
    go_ret
    refine ⟨_, rfl, ?_, (Keep.alloc _ _ _).trans (Keep.alloc _ _ _)⟩
    rw [XhT.out]
    have hb := cells_of_block (new_block (w.alloc (.cells #[.int .i64 3, .string pr, .slice aa args.length ca, .bool lv, .string lt, .bool rv, .string rt] 78)) (.cells #[.bool lv, .string lt, .bool rv, .string rt] 76))
    simp only [World.size_alloc] at hb
    have q0 := hb 0 _ rfl
    have q1 := hb 1 _ rfl
    have q2 := hb 2 _ rfl
    have q3 := hb 3 _ rfl
    refine ⟨_, _, rfl, by simp, by simp [maxLen], fun j x hx => ⟨_, 0, rfl, by simp, ?_⟩⟩
    match j, hx with
    | 0, hx => simp at hx; subst hx; exact ⟨q0, q1⟩
    | 1, hx => simp at hx; subst hx; exact ⟨q2, q3⟩
  · have hT : termsP ⟨k, ⟨pr, args⟩, ⟨lv, lt⟩, ⟨rv, rt⟩⟩ = args := by unfold termsP; rw [if_neg h3]
    have Xha := Lib.hid ha
    have XhT := Lib.hid hT
    clear ha hT
    go_enter Try.func67, Try.ntmps67
    go_wp2_with fail
    go_ret
    refine ⟨_, rfl, ?_, Keep.alloc _ _ _⟩
    rw [XhT.out]
    exact terms_wider (terms_keep Xha.out ((Keep.alloc (fun _ => True) _ _).mono fun _ _ _ => trivial)) (by simp; omega)

set_option maxRecDepth 100000 in
theorem ready_any (n M : Nat) (K : List ByteArray) (L : LitD) (sa : Value) (w : World) (hS : SetIn w M K) (ha : TermsIn n w sa L.atom.args) (hn : n ≤ w.heap.size) : Calls Try.prog 39 #[.map (some M), litV L sa] w fun e w' => e = .returned (.bool (readyP K L)) ∧ Keep (fun b => b < w.heap.size) w w' := by
  have hM := hS.lt
  have h1 := fun W (hK : Keep (fun _ => True) w W) => pterms_any n L sa W (terms_keep ha (hK.mono fun _ _ _ => trivial)) (by have := hK.size; omega)
  have h2 := fun W (hK : Keep (fun b => b < w.heap.size) w W) sv (hsv : TermsIn W.heap.size W sv (termsP L)) => hasTerms_any (gf := 68) (bs := #[.map (some M)]) (lb := #[]) (enters Try.func68 (by kernel_rfl) rfl) (openD K) W.heap.size sv (termsP L) W hsv (Nat.le_refl _)
    (fun x _ W2 hK2 => (open_any M K x W2 (hS.keep (hK.trans (hK2.mono fun b _ _ => by have := hK.size; omega)) hM)).mono fun e w' ⟨e1, k1⟩ => ⟨e1, k1.mono fun _ _ _ => trivial⟩)
  have hE : readyP K L = (decide (L.kind = 1) || !(termsP L).any (openD K)) := rfl
  obtain ⟨b2, hb2⟩ : ∃ b, (termsP L).any (openD K) = b := ⟨_, rfl⟩
  rw [hb2] at hE
  simp only [hb2] at h2
  obtain ⟨aa, ca, rfl, -, -, -⟩ := id ha
  obtain ⟨k, ⟨pr, args⟩, ⟨lv, lt⟩, ⟨rv, rt⟩⟩ := L
  unfold litV at h1 ⊢
  simp only at h1 hE ⊢
  clear hb2 ha hS
  by_cases hk : k = 1
  · subst hk
    have Xh1 := Lib.hid h1
    have Xh2 := Lib.hid h2
    have XhE := Lib.hid hE
    clear h1 h2 hE
    go_enter Try.func39, Try.ntmps39
    go_wp2_with fail
    go_ret
    exact ⟨by rw [XhE.out]; rfl, Keep.alloc _ _ _⟩
  · rw [decide_eq_false hk, Bool.false_or] at hE
    have Xh1 := Lib.hid h1
    have Xh2 := Lib.hid h2
    have XhE := Lib.hid hE
    clear h1 h2 hE
    go_enter Try.func39, Try.ntmps39
    go_wp2_with fail
    refine (Xh1.out _ (Keep.alloc _ _ _)).mono ?_
    rintro e w1 ⟨sv, rfl, hsv, k1⟩
    have k2 : Keep (fun _ => True) w w1 := (Keep.alloc _ _ _).trans k1
    have h3 := Xh2.out w1 (k2.mono fun _ _ _ => trivial) sv hsv
    obtain ⟨a3, c3, rfl, -, -, -⟩ := id hsv
    clear hsv k1
    have Xh3 := Lib.hid h3
    have Xk2 := Lib.hid k2
    clear h3 k2
    go_wp2_with fail
    refine Xh3.out.mono ?_
    rintro e w2 ⟨rfl, k3⟩
    go_wp2_with fail
    go_ret
    exact ⟨by rw [XhE.out]; show Ending.returned (.bool (k == 1 || !b2)) = _; rw [beq_eq_false_iff_ne.2 hk]; rfl, Xk2.out.trans (k3.mono fun b hb _ => by have := Xk2.out.size; omega) |>.mono fun _ _ _ => trivial⟩
end Go.Proofs
