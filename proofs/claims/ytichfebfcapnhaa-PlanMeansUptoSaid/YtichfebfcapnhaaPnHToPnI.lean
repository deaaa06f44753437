/- Layer 16 (plan): sizes that may be used: the program and the document. -/
import Derived.Test.YtichfebfcapnhaaProg
import Derived.Test.YtichfebfcapnhaaPnC
import Derived.Test.YtichfebfcapnhaaOwnToRowC
import Derived.Laws.EntriesVeiled
import Derived.Test.YtichfebfcapnhaaPnDToPnE
namespace Go.Proofs
open Go.RowKit Go.Ink
set_option linter.unusedVariables false
set_option linter.unusedSimpArgs false
attribute [local go_sem] Oper.semAt_some

def outB (n : Int) : Bool := decide (n < 0) || decide (2147483647 < n)
def unfitB (s : SizeD) : Bool := outB s.rows || s.dist.any outB
def usableB (l : List SizeD) : Bool := !l.any unfitB

set_option maxRecDepth 100000 in
theorem out_any (x : Int) (w : World) : Calls Try.prog 79 #[.int .i64 x] w fun e w' => e = .returned (.bool (outB x)) ∧ w' = w := by
  by_cases h : x < 0
  · have hE : outB x = true := by unfold outB; rw [decide_eq_true h]; rfl
    have XhE := Lib.hid hE
    clear hE
    go_enter Try.func79, Try.ntmps79
    go_wp2_with fail
    go_ret
    exact ⟨by rw [XhE.out]; rfl, rfl⟩
  · have hE : outB x = decide (2147483647 < x) := by unfold outB; rw [decide_eq_false h]; rfl
    have XhE := Lib.hid hE
    clear hE
    go_enter Try.func79, Try.ntmps79
    go_wp2_with fail
    go_ret
    exact ⟨by rw [XhE.out]; rfl, rfl⟩

set_option maxRecDepth 100000 in
theorem unfit_any (n B : Nat) (s : SizeD) (sv : Value) (w : World) (hs : IntsIn n w sv s.dist) (hn : n ≤ w.heap.size) (hB : w.cell? ⟨B, 0, none⟩ = some (.func (.func 79) #[] #[])) :
    Calls Try.prog 81 #[sizeV s sv, .pointer (some ⟨B, 0, none⟩)] w fun e w' => e = .returned (.bool (unfitB s)) ∧ Keep (fun b => b < w.heap.size) w w' := by
  obtain ⟨pr, rows, dist⟩ := s
  unfold sizeV
  simp only at hs ⊢
  have hE : unfitB ⟨pr, rows, dist⟩ = (outB rows || dist.any outB) := rfl
  have h1 := fun w => out_any rows w
  have h2 := fun W (hK : Keep (fun b => b < w.heap.size) w W) => hasInts_any (gf := 79) (bs := #[]) (lb := #[]) (enters Try.func79 (by kernel_rfl) rfl) outB n sv dist W (ints_kept hs (hK.mono fun b _ h => by omega)) (by have := hK.size; omega)
    (fun x _ W2 _ => (out_any x W2).mono fun e w' ⟨e1, k1⟩ => ⟨e1, by subst k1; exact Keep.refl _ _⟩)
  obtain ⟨b1, hb1⟩ : ∃ b, outB rows = b := ⟨_, rfl⟩
  obtain ⟨b2, hb2⟩ : ∃ b, dist.any outB = b := ⟨_, rfl⟩
  rw [hb1, hb2] at hE
  simp only [hb1] at h1
  simp only [hb2] at h2
  obtain ⟨a, c, rfl, -, -, -⟩ := id hs
  have l0 : B < w.heap.size := World.block_lt_of_cell? w _ hB
  clear hs hb1 hb2
  have XhE := Lib.hid hE
  have Xh1 := Lib.hid h1
  have Xh2 := Lib.hid h2
  clear hE h1 h2
  cases b1
  all_goals go_enter Try.func81, Try.ntmps81
  all_goals go_wp2_with fail
  all_goals refine (Xh1.out _).mono ?_
  all_goals (rintro e w1 ⟨rfl, hw1⟩; have hw1 := hw1.symm; subst hw1)
  all_goals go_wp2_with fail
  · refine (Xh2.out _ (Keep.alloc _ _ _)).mono ?_
    rintro e w1 ⟨rfl, k1⟩
    go_wp2_with fail
    go_ret
    exact ⟨by rw [XhE.out]; rfl, (Keep.alloc _ _ _).trans (k1.mono fun b hb _ => by simp; omega)⟩
  · go_ret
    exact ⟨by rw [XhE.out]; rfl, Keep.alloc _ _ _⟩

set_option maxRecDepth 100000 in
theorem usable_any (n : Nat) (l : List SizeD) (v : Value) (w : World) (hl : SizesIn n w v l) (hn : n ≤ w.heap.size) : Calls Try.prog 49 #[v] w fun e w' => e = .returned (.bool (usableB l)) ∧ Keep (fun b => b < w.heap.size) w w' := by
  have hE : usableB l = !l.any unfitB := rfl
  obtain ⟨W0, hW0⟩ : ∃ W0, w.alloc (.cells #[.func (.func 79) #[] #[]] 124) = W0 := ⟨_, rfl⟩
  have k0 : Keep (fun _ => True) w W0 := by rw [← hW0]; exact Keep.alloc _ _ _
  have hz := k0.size
  have c2 : W0.cell? ⟨w.heap.size, 0, none⟩ = some (.func (.func 79) #[] #[]) := by rw [← hW0]; simp
  have l0 : w.heap.size < W0.heap.size := by rw [← hW0]; simp
  have h2 := hasSizes_any (gf := 81) (bs := #[]) (lb := #[.pointer (some ⟨w.heap.size, 0, none⟩)]) (enters Try.func81 (by kernel_rfl) rfl) unfitB n v l W0 (hl.keep (k0.mono fun _ _ _ => trivial)) (by omega)
    (fun x _ W2 hK sv hsv => unfit_any n w.heap.size x sv W2 hsv (by have := hK.size; omega) (hK.cell c2 l0))
  obtain ⟨b2, hb2⟩ : ∃ b, l.any unfitB = b := ⟨_, rfl⟩
  rw [hb2] at hE
  rw [hb2] at h2
  obtain ⟨a, c, rfl, -, -, -⟩ := id hl
  clear hl hb2
  have XhE := Lib.hid hE
  have Xh2 := Lib.hid h2
  have Xk0 := Lib.hid k0
  have XhW0 := Lib.hid hW0
  clear hE h2 k0 hW0
  go_enter Try.func49, Try.ntmps49
  go_wp2_with fail
  rw [XhW0.out]
  refine Xh2.out.mono ?_
  rintro e w1 ⟨rfl, k1⟩
  go_wp2_with fail
  go_ret
  exact ⟨by rw [XhE.out]; rfl, Xk0.out.trans (k1.mono fun b hb _ => by omega) |>.mono fun _ _ _ => trivial⟩

set_option maxRecDepth 100000 in
theorem may_any (n : Nat) (l : List SizeD) (v : Value) (w : World) (hl : SizesIn n w v l) (hn : n ≤ w.heap.size) : Calls Try.prog 50 #[v] w fun e w' => e = .returned (.bool (usableB l)) ∧ w' = w := by
  have hE : usableB l = !l.any unfitB := rfl
  obtain ⟨a, c, rfl, hlen, hcap, hel⟩ := id hl
  clear hl
  have XhE := Lib.hid hE
  have Xhel := Lib.hid hel
  clear hE hel
  go_enter Try.func50, Try.ntmps50
  go_wp2_with fail
  go_loopw [3] (fun i wr => ∃ k : Nat, k ≤ l.length ∧ i = .int .i64 (k : Int) ∧ wr = w ∧ (l.take k).any unfitB = false) (fun i _ => l.length - (intOf i).toNat)
  case atStart => exact ⟨0, by omega, rfl, rfl, rfl⟩
  case round =>
    obtain ⟨k, hk, rfl, hw, hany⟩ := hrel
    have hw := hw.symm
    subst hw
    by_cases hlt : k < l.length
    · have hlt1 : (k : Int) < l.length := by omega
      have hk0 : (0 : Int) ≤ k := by omega
      obtain ⟨x, hx⟩ : ∃ x, l[k]? = some x := ⟨_, List.getElem?_eq_getElem hlt⟩
      obtain ⟨b, o, rfl, hb, sv, hcl, hsv⟩ := Xhel.out k x hx
      obtain ⟨asl, cs, rfl, hls, hcs, hes⟩ := id hsv
      have d1 := hcl 1 _ rfl
      have d2 := hcl 2 _ rfl
      have hbw : b < w.heap.size := by omega
      have hst := any_step unfitB l hx
      rw [hany, Bool.false_or] at hst
      have hno : unfitB x = true → l.any unfitB = true := fun h => List.any_eq_true.2 ⟨x, List.mem_of_getElem? hx, h⟩
      obtain ⟨pr, rows, dist⟩ := x
      simp only at d1 d2 hes hls hcs
      have hU : unfitB ⟨pr, rows, dist⟩ = (outB rows || dist.any outB) := rfl
      rw [hU] at hst hno
      clear hcl hsv hx hU
      by_cases h0 : rows < 0
      · have hO : outB rows = true := by unfold outB; rw [decide_eq_true h0]; rfl
        rw [hO, Bool.true_or] at hno
        have Xhst := Lib.hid hst
        have Xhno := Lib.hid hno
        have Xhes := Lib.hid hes
        have Xhany := Lib.hid hany
        have XhO := Lib.hid hO
        clear hst hno hes hany hO
        go_wp2_with fail
        go_ret
        exact ⟨by rw [XhE.out, Xhno.out (by trivial)]; rfl, rfl⟩
      · by_cases h1 : 2147483647 < rows
        · have hO : outB rows = true := by unfold outB; rw [decide_eq_true h1, Bool.or_true]
          rw [hO, Bool.true_or] at hno
          have Xhst := Lib.hid hst
          have Xhno := Lib.hid hno
          have Xhes := Lib.hid hes
          have Xhany := Lib.hid hany
          have XhO := Lib.hid hO
          clear hst hno hes hany hO
          go_wp2_with fail
          go_ret
          exact ⟨by rw [XhE.out, Xhno.out (by trivial)]; rfl, rfl⟩
        · have hO : outB rows = false := by unfold outB; rw [decide_eq_false h0, decide_eq_false h1]; rfl
          rw [hO, Bool.false_or] at hno hst
          have Xhst := Lib.hid hst
          have Xhno := Lib.hid hno
          have Xhes := Lib.hid hes
          have Xhany := Lib.hid hany
          have XhO := Lib.hid hO
          clear hst hno hes hany hO
          go_wp2_with fail
          go_loopw [4] (fun i wr => ∃ j : Nat, j ≤ dist.length ∧ i = .int .i64 (j : Int) ∧ wr = w ∧ (dist.take j).any outB = false) (fun i _ => dist.length - (intOf i).toNat)
          case atStart => exact ⟨0, by omega, rfl, rfl, rfl⟩
          case round =>
            obtain ⟨j, hj, rfl, hw, hany2⟩ := hrel
            have hw := hw.symm
            subst hw
            by_cases hlt2 : j < dist.length
            · have hlt3 : (j : Int) < dist.length := by omega
              have hj0 : (0 : Int) ≤ j := by omega
              obtain ⟨y, hy⟩ : ∃ x, dist[j]? = some x := ⟨_, List.getElem?_eq_getElem hlt2⟩
              obtain ⟨b2, o2, rfl, hb2, hcl2⟩ := Xhes.out j y hy
              unfold IntE at hcl2
              simp only [Nat.mul_one] at hcl2
              have hb2w : b2 < w.heap.size := by omega
              have hst2 := any_step outB dist hy
              rw [hany2, Bool.false_or] at hst2
              have hno2 : outB y = true → dist.any outB = true := fun h => List.any_eq_true.2 ⟨y, List.mem_of_getElem? hy, h⟩
              clear hy
              by_cases g0 : y < 0
              · have hO2 : outB y = true := by unfold outB; rw [decide_eq_true g0]; rfl
                have hno3 := Xhno.out (hno2 hO2)
                have Xhst2 := Lib.hid hst2
                have Xhno2 := Lib.hid hno2
                have Xhany2 := Lib.hid hany2
                have XhO2 := Lib.hid hO2
                have Xhno3 := Lib.hid hno3
                clear hst2 hno2 hany2 hO2 hno3
                go_wp2_with fail
                go_ret
                exact ⟨by rw [XhE.out, Xhno3.out]; rfl, rfl⟩
              · by_cases g1 : 2147483647 < y
                · have hO2 : outB y = true := by unfold outB; rw [decide_eq_true g1, Bool.or_true]
                  have hno3 := Xhno.out (hno2 hO2)
                  have Xhst2 := Lib.hid hst2
                  have Xhno2 := Lib.hid hno2
                  have Xhany2 := Lib.hid hany2
                  have XhO2 := Lib.hid hO2
                  have Xhno3 := Lib.hid hno3
                  clear hst2 hno2 hany2 hO2 hno3
                  go_wp2_with fail
                  go_ret
                  exact ⟨by rw [XhE.out, Xhno3.out]; rfl, rfl⟩
                · have hO2 : outB y = false := by unfold outB; rw [decide_eq_false g0, decide_eq_false g1]; rfl
                  rw [hO2] at hst2
                  have Xhst2 := Lib.hid hst2
                  have Xhno2 := Lib.hid hno2
                  have Xhany2 := Lib.hid hany2
                  have XhO2 := Lib.hid hO2
                  clear hst2 hno2 hany2 hO2
                  go_wp2_with fail
                  go_roundw
                  case rel => exact ⟨j + 1, by omega, by go_num, by trivial, Xhst2.out⟩
                  case measure => simp [intOf]; omega
            · obtain rfl : j = dist.length := by omega
              rw [List.take_length] at hany2
              have hst3 := Xhst.out
              rw [hany2] at hst3
              have Xhany2 := Lib.hid hany2
              have Xhst3 := Lib.hid hst3
              clear hany2 hst3
              go_wp2_with fail
              go_roundw
              case rel => exact ⟨k + 1, by omega, by go_num, by trivial, Xhst3.out⟩
              case measure => simp [intOf]; omega
    · obtain rfl : k = l.length := by omega
      rw [List.take_length] at hany
      have Xhany := Lib.hid hany
      clear hany
      go_wp2_with fail
      go_ret
      exact ⟨by rw [XhE.out, Xhany.out]; rfl, rfl⟩
end Go.Proofs

/- Layer 16 (plan): known variables: open, terms, ready. -/
namespace Go.Proofs
open Go.RowKit Go.Ink
set_option linter.unusedVariables false
set_option linter.unusedSimpArgs false
attribute [local go_sem] Oper.semAt_some

def openD (K : List ByteArray) (t : TermD) : Bool := t.var && !decide (t.text ∈ K)
def termsP (L : LitD) : List TermD := if L.kind = 3 then [L.left, L.right] else L.atom.args
def readyP (K : List ByteArray) (L : LitD) : Bool := decide (L.kind = 1) || !(termsP L).any (openD K)
theorem zero_bool (w : World) : (zeroValue 4).run Try.prog w = .ok (.bool false) w := by kernel_rfl
set_option maxRecDepth 100000 in
theorem open_any (M : Nat) (K : List ByteArray) (t : TermD) (w : World) (hS : SetIn w M K) : Calls Try.prog 68 #[.map (some M), termV t] w fun e w' => e = .returned (.bool (openD K t)) ∧ Keep (fun _ => True) w w' := by
  obtain ⟨v, s⟩ := t
  unfold termV
  simp only
  have hE : openD K ⟨v, s⟩ = (v && !decide (s ∈ K)) := rfl
  have hl := fun w (h : SetIn w M K) => run_lookup_set (P := Try.prog) (T := 86) (K := 9) (E := 4) Try.underlying86 Try.underlying9 zero_bool h s
  obtain ⟨b, hb⟩ : ∃ b, decide (s ∈ K) = b := ⟨_, rfl⟩
  rw [hb] at hE
  simp only [hb] at hl
  have hl0 := hl (w.alloc (.cells #[.bool v, .string s] 76)) (hS.keep (Keep.alloc (fun _ => True) _ _) trivial)
  clear hl hb
  have XhS := Lib.hid hS
  have XhE := Lib.hid hE
  clear hS hE
  cases v
  · clear hl0
    go_enter Try.func68, Try.ntmps68
    go_wp2_with fail
    go_ret
    exact ⟨by rw [XhE.out]; rfl, Keep.alloc _ _ _⟩
  · go_enter Try.func68, Try.ntmps68
    go_wp2_with fail
    go_ret
    exact ⟨by rw [XhE.out]; rfl, Keep.alloc _ _ _⟩

set_option maxRecDepth 100000 in
theorem pterms_any (n : Nat) (L : LitD) (sa : Value) (w : World) (ha : TermsIn n w sa L.atom.args) (hn : n ≤ w.heap.size) : Calls Try.prog 67 #[litV L sa] w fun e w' => ∃ sv, e = .returned sv ∧ TermsIn w'.heap.size w' sv (termsP L) ∧ Keep (fun _ => True) w w' := by
  obtain ⟨aa, ca, rfl, -, -, -⟩ := id ha
  obtain ⟨k, ⟨pr, args⟩, ⟨lv, lt⟩, ⟨rv, rt⟩⟩ := L
  unfold litV
  simp only at ha ⊢
  by_cases h3 : k = 3
  · subst h3
    have hT : termsP ⟨3, ⟨pr, args⟩, ⟨lv, lt⟩, ⟨rv, rt⟩⟩ = [⟨lv, lt⟩, ⟨rv, rt⟩] := rfl
    have Xha := Lib.hid ha
    have XhT := Lib.hid hT
    clear ha hT
    go_enter Try.func67, Try.ntmps67
    go_wp2_with fail
    go_ret
    refine ⟨_, rfl, ?_, (Keep.alloc _ _ _).trans (Keep.alloc _ _ _)⟩
    rw [XhT.out]
    have hb := cells_of_block (new_block (w.alloc (.cells #[.int .i64 3, .string pr, .slice aa args.length ca, .bool lv, .string lt, .bool rv, .string rt] 78)) (.cells #[.bool lv, .string lt, .bool rv, .string rt] 76))
    simp only [World.size_alloc] at hb
    have q0 := hb 0 _ rfl
    have q1 := hb 1 _ rfl
    have q2 := hb 2 _ rfl
    have q3 := hb 3 _ rfl
    refine ⟨_, _, rfl, by simp, by simp [maxLen], fun j x hx => ⟨_, 0, rfl, by simp, ?_⟩⟩
    match j, hx with
    | 0, hx => simp at hx; subst hx; exact ⟨q0, q1⟩
    | 1, hx => simp at hx; subst hx; exact ⟨q2, q3⟩
  · have hT : termsP ⟨k, ⟨pr, args⟩, ⟨lv, lt⟩, ⟨rv, rt⟩⟩ = args := by unfold termsP; rw [if_neg h3]
    have Xha := Lib.hid ha
    have XhT := Lib.hid hT
    clear ha hT
    go_enter Try.func67, Try.ntmps67
    go_wp2_with fail
    go_ret
    refine ⟨_, rfl, ?_, Keep.alloc _ _ _⟩
    rw [XhT.out]
    exact terms_wider (terms_keep Xha.out ((Keep.alloc (fun _ => True) _ _).mono fun _ _ _ => trivial)) (by simp; omega)

set_option maxRecDepth 100000 in
theorem ready_any (n M : Nat) (K : List ByteArray) (L : LitD) (sa : Value) (w : World) (hS : SetIn w M K) (ha : TermsIn n w sa L.atom.args) (hn : n ≤ w.heap.size) : Calls Try.prog 39 #[.map (some M), litV L sa] w fun e w' => e = .returned (.bool (readyP K L)) ∧ Keep (fun b => b < w.heap.size) w w' := by
  have hM := hS.lt
  have h1 := fun W (hK : Keep (fun _ => True) w W) => pterms_any n L sa W (terms_keep ha (hK.mono fun _ _ _ => trivial)) (by have := hK.size; omega)
  have h2 := fun W (hK : Keep (fun b => b < w.heap.size) w W) sv (hsv : TermsIn W.heap.size W sv (termsP L)) => hasTerms_any (gf := 68) (bs := #[.map (some M)]) (lb := #[]) (enters Try.func68 (by kernel_rfl) rfl) (openD K) W.heap.size sv (termsP L) W hsv (Nat.le_refl _)
    (fun x _ W2 hK2 => (open_any M K x W2 (hS.keep (hK.trans (hK2.mono fun b _ _ => by have := hK.size; omega)) hM)).mono fun e w' ⟨e1, k1⟩ => ⟨e1, k1.mono fun _ _ _ => trivial⟩)
  have hE : readyP K L = (decide (L.kind = 1) || !(termsP L).any (openD K)) := rfl
  obtain ⟨b2, hb2⟩ : ∃ b, (termsP L).any (openD K) = b := ⟨_, rfl⟩
  rw [hb2] at hE
  simp only [hb2] at h2
  obtain ⟨aa, ca, rfl, -, -, -⟩ := id ha
  obtain ⟨k, ⟨pr, args⟩, ⟨lv, lt⟩, ⟨rv, rt⟩⟩ := L
  unfold litV at h1 ⊢
  simp only at h1 hE ⊢
  clear hb2 ha hS
  by_cases hk : k = 1
  · subst hk
    have Xh1 := Lib.hid h1
    have Xh2 := Lib.hid h2
    have XhE := Lib.hid hE
    clear h1 h2 hE
    go_enter Try.func39, Try.ntmps39
    go_wp2_with fail
    go_ret
    exact ⟨by rw [XhE.out]; rfl, Keep.alloc _ _ _⟩
  · rw [decide_eq_false hk, Bool.false_or] at hE
    have Xh1 := Lib.hid h1
    have Xh2 := Lib.hid h2
    have XhE := Lib.hid hE
    clear h1 h2 hE
    go_enter Try.func39, Try.ntmps39
    go_wp2_with fail
    refine (Xh1.out _ (Keep.alloc _ _ _)).mono ?_
    rintro e w1 ⟨sv, rfl, hsv, k1⟩
    have k2 : Keep (fun _ => True) w w1 := (Keep.alloc _ _ _).trans k1
    have h3 := Xh2.out w1 (k2.mono fun _ _ _ => trivial) sv hsv
    obtain ⟨a3, c3, rfl, -, -, -⟩ := id hsv
    clear hsv k1
    have Xh3 := Lib.hid h3
    have Xk2 := Lib.hid k2
    clear h3 k2
    go_wp2_with fail
    refine Xh3.out.mono ?_
    rintro e w2 ⟨rfl, k3⟩
    go_wp2_with fail
    go_ret
    exact ⟨by rw [XhE.out]; show Ending.returned (.bool (k == 1 || !b2)) = _; rw [beq_eq_false_iff_ne.2 hk]; rfl, Xk2.out.trans (k3.mono fun b hb _ => by have := Xk2.out.size; omega) |>.mono fun _ _ _ => trivial⟩
end Go.Proofs
