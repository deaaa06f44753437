/- Layer 16 (plan): words: what a name, a variable, a constant is, in the program and in the document. -/
import Derived.Test.YtichfebfcapnhaaProg
import Derived.Test.YtichfebfcapnhaaData
namespace Go.Proofs
open Go.RowKit Go.Ink
set_option linter.unusedVariables false
set_option linter.unusedSimpArgs false
attribute [local go_sem] Oper.semAt_some

def digC (c : Int) : Bool := decide (48 ≤ c) && decide (c ≤ 57)
def lowC (c : Int) : Bool := decide (97 ≤ c) && decide (c ≤ 122)
def uppC (c : Int) : Bool := decide (65 ≤ c) && decide (c ≤ 90)
def wordC (c : Int) : Bool := lowC c || uppC c || digC c || decide (c = 95)

set_option maxRecDepth 100000 in
theorem lexWord_any (c : Int) (w : World) : Calls Try.prog 109 #[.int .u8 c] w fun e w' => e = .returned (.bool (wordC c)) ∧ w' = w := by
  go_enter Try.func109, Try.ntmps109
  go_wp2
  all_goals go_ret
  all_goals (refine ⟨congrArg (fun b => Ending.returned (Value.bool b)) ?_, rfl⟩; rw [Bool.eq_iff_iff]; simp only [wordC, lowC, uppC, digC, Bool.or_eq_true, Bool.and_eq_true, decide_eq_true_eq, beq_iff_eq]; (try simp only [true_iff, false_iff, iff_true, iff_false, Bool.false_eq_true]); omega)

set_option maxRecDepth 100000 in
theorem refSmall_any (c : Int) (w : World) : Calls Try.prog 107 #[.int .u8 c] w fun e w' => e = .returned (.bool (lowC c)) ∧ w' = w := by
  go_enter Try.func107, Try.ntmps107
  go_wp2
  all_goals go_ret
  all_goals (refine ⟨congrArg (fun b => Ending.returned (Value.bool b)) ?_, rfl⟩; rw [Bool.eq_iff_iff]; simp only [lowC, Bool.or_eq_true, Bool.and_eq_true, decide_eq_true_eq, beq_iff_eq]; (try simp only [true_iff, false_iff, iff_true, iff_false, Bool.false_eq_true]); omega)
set_option maxRecDepth 100000 in
theorem refGreat_any (c : Int) (w : World) : Calls Try.prog 110 #[.int .u8 c] w fun e w' => e = .returned (.bool (uppC c)) ∧ w' = w := by
  go_enter Try.func110, Try.ntmps110
  go_wp2
  all_goals go_ret
  all_goals (refine ⟨congrArg (fun b => Ending.returned (Value.bool b)) ?_, rfl⟩; rw [Bool.eq_iff_iff]; simp only [uppC, Bool.or_eq_true, Bool.and_eq_true, decide_eq_true_eq, beq_iff_eq]; (try simp only [true_iff, false_iff, iff_true, iff_false, Bool.false_eq_true]); omega)
set_option maxRecDepth 100000 in
theorem refDigit_any (c : Int) (w : World) : Calls Try.prog 112 #[.int .u8 c] w fun e w' => e = .returned (.bool (digC c)) ∧ w' = w := by
  go_enter Try.func112, Try.ntmps112
  go_wp2
  all_goals go_ret
  all_goals (refine ⟨congrArg (fun b => Ending.returned (Value.bool b)) ?_, rfl⟩; rw [Bool.eq_iff_iff]; simp only [digC, Bool.or_eq_true, Bool.and_eq_true, decide_eq_true_eq, beq_iff_eq]; (try simp only [true_iff, false_iff, iff_true, iff_false, Bool.false_eq_true]); omega)
set_option maxRecDepth 100000 in
theorem refLetter_any (c : Int) (w : World) : Calls Try.prog 111 #[.int .u8 c] w fun e w' => e = .returned (.bool (wordC c)) ∧ w' = w := by
  go_enter Try.func111, Try.ntmps111
  go_wp2
  all_goals go_ret
  all_goals (refine ⟨congrArg (fun b => Ending.returned (Value.bool b)) ?_, rfl⟩; rw [Bool.eq_iff_iff]; simp only [wordC, lowC, uppC, digC, Bool.or_eq_true, Bool.and_eq_true, decide_eq_true_eq, beq_iff_eq]; (try simp only [true_iff, false_iff, iff_true, iff_false, Bool.false_eq_true]); omega)

/-- a text whose bytes may all stand in a word -/
def byteL (s : ByteArray) : List Int := s.data.toList.map fun c => (c.toNat : Int)
theorem byteL_len (s : ByteArray) : (byteL s).length = s.size := by rw [byteL, List.length_map, Array.length_toList]; rfl
theorem byteL_at (s : ByteArray) {k : Nat} (h : k < s.size) : (byteL s)[k]? = some ((s[k].toNat : Nat) : Int) := by
  have h1 : k < s.data.toList.length := by rw [Array.length_toList]; exact h
  simp only [byteL, List.getElem?_map, List.getElem?_eq_getElem h1, Option.map_some]
  rfl
theorem all_step {α : Type} (p : α → Bool) (l : List α) {k : Nat} {c : α} (h : l[k]? = some c) : (l.take (k + 1)).all p = ((l.take k).all p && p c) := by
  rw [List.take_add_one, h, List.all_append]
  simp
theorem all_not {α : Type} (p : α → Bool) (l : List α) {k : Nat} {c : α} (h : l[k]? = some c) (hc : p c = false) : l.all p = false := by
  cases h1 : l.all p with
  | false => rfl
  | true => rw [List.all_eq_true.1 h1 c (List.mem_of_getElem? h)] at hc; cases hc
def writtenB (s : ByteArray) : Bool := (byteL s).all wordC && (decide (1 ≤ s.size) && decide (s.size ≤ 64))
set_option maxRecDepth 100000 in
theorem refWritten_any (s : ByteArray) (hs : s.size ≤ 1073741824) (w : World) : Calls Try.prog 106 #[.string s] w fun e w' => e = .returned (.bool (writtenB s)) ∧ w' = w := by
  go_enter Try.func106, Try.ntmps106
  go_wp2
  go_loopw [3] (fun i wr => ∃ k : Nat, k ≤ s.size ∧ i = .int .i64 (k : Int) ∧ wr = w ∧ ((byteL s).take k).all wordC = true) (fun i _ => s.size - (intOf i).toNat)
  case atStart => exact ⟨0, by omega, rfl, rfl, rfl⟩
  case round =>
    obtain ⟨k, hk, rfl, hw1, hall⟩ := hrel
    have hw1 := hw1.symm
    subst hw1
    by_cases hlt : k < s.size
    · have hlt1 : (k : Int) < s.size := by omega
      have hk0 : (0 : Int) ≤ k := by omega
      have hat := byteL_at s hlt
      have hst := all_step wordC (byteL s) hat
      rw [hall, Bool.true_and] at hst
      have hcl := refLetter_any ((s[k].toNat : Nat) : Int) w
      cases hc : wordC ((s[k].toNat : Nat) : Int) with
      | false =>
        rw [hc] at hcl
        have hno := all_not wordC _ hat hc
        have Xhat := Lib.hid hat
        have Xhst := Lib.hid hst
        have Xhcl := Lib.hid hcl
        have Xhc := Lib.hid hc
        have Xhno := Lib.hid hno
        have Xhall := Lib.hid hall
        clear hat hst hcl hc hno hall
        go_wp2_with fail
        refine Xhcl.out.mono ?_
        rintro e w1 ⟨rfl, hw1⟩; have hw1 := hw1.symm; subst hw1
        go_wp2_with fail
        go_ret
        exact ⟨by unfold writtenB; rw [Xhno.out]; rfl, rfl⟩
      | true =>
        rw [hc] at hcl hst
        have Xhat := Lib.hid hat
        have Xhst := Lib.hid hst
        have Xhcl := Lib.hid hcl
        have Xhc := Lib.hid hc
        have Xhall := Lib.hid hall
        clear hat hst hcl hc hall
        go_wp2_with fail
        refine Xhcl.out.mono ?_
        rintro e w1 ⟨rfl, hw1⟩; have hw1 := hw1.symm; subst hw1
        go_wp2_with fail
        go_roundw
        case rel => exact ⟨k + 1, by omega, by go_num, by trivial, Xhst.out⟩
        case measure => simp [intOf]; omega
    · obtain rfl : k = s.size := by omega
      rw [List.take_of_length_le (by rw [byteL_len]; omega)] at hall
      have Xhall := Lib.hid hall
      clear hall
      have g1 : decide (1 ≤ (s.size : Int)) = decide (1 ≤ s.size) := by rw [decide_eq_decide]; omega
      have g2 : decide ((s.size : Int) ≤ 64) = decide (s.size ≤ 64) := by rw [decide_eq_decide]; omega
      have hE : writtenB s = (decide (1 ≤ (s.size : Int)) && decide ((s.size : Int) ≤ 64)) := by rw [g1, g2]; unfold writtenB; rw [Xhall.out, Bool.true_and]
      clear g1 g2 hlt hk
      have XhE := Lib.hid hE
      clear hE
      go_wp2_with fail
      all_goals go_ret
      all_goals (refine ⟨?_, rfl⟩; rw [XhE.out]; refine congrArg (fun b => Ending.returned (Value.bool b)) ?_; rw [Bool.eq_iff_iff]; simp only [Bool.and_eq_true, decide_eq_true_eq]; (try simp only [true_iff, false_iff, iff_true, iff_false, Bool.false_eq_true]); omega)
end Go.Proofs
