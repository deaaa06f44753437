/- Layer 16 (plan): lex.kindOf and what hangs on it; the document's Name, Variable, Constant. -/
import Derived.Test.YtichfebfcapnhaaProg
import Derived.Test.YtichfebfcapnhaaPnA
namespace Go.Proofs
open Go.RowKit Go.Ink
set_option linter.unusedVariables false
set_option linter.unusedSimpArgs false
attribute [local go_sem] Oper.semAt_some

theorem bytes_same {a b : ByteArray} (h : a = b) : (a.toList == b.toList) = true := by simp [h]
theorem bytes_other {a b : ByteArray} (h : a ≠ b) : (a.toList == b.toList) = false := by
  rw [← beq_toListBytes]
  exact beq_eq_false_iff_ne.2 h
theorem bytes_eq (a b : ByteArray) : (a = b) = ((a.toList == b.toList) = true) := by
  rw [← beq_toListBytes, beq_iff_eq]
def sInput : ByteArray := ⟨#[105, 110, 112, 117, 116]⟩
def sOutput : ByteArray := ⟨#[111, 117, 116, 112, 117, 116]⟩
def sNot : ByteArray := ⟨#[110, 111, 116]⟩
def headC (s : ByteArray) : Int := (byteL s).headD 0
def keptB (s : ByteArray) : Bool := decide (s = sInput) || decide (s = sOutput) || decide (s = sNot)
def nameB (s : ByteArray) : Bool := writtenB s && lowC (headC s) && !keptB s
def varB (s : ByteArray) : Bool := writtenB s && uppC (headC s)
def constB (s : ByteArray) : Bool := decide (s.size ≤ 1024)
def kindD (s : ByteArray) : Int :=
  if writtenB s then
    if digC (headC s) then (if (byteL s).all (fun c => decide (c ≤ 57)) then 3 else 0)
    else if uppC (headC s) then 2
    else if headC s = 95 then 0
    else if s = sInput then 5 else if s = sOutput then 6 else if s = sNot then 7 else 1
  else 0
theorem written_head {s : ByteArray} (h : writtenB s = true) : wordC (headC s) = true := by
  unfold writtenB at h
  rw [Bool.and_eq_true, Bool.and_eq_true, decide_eq_true_eq, decide_eq_true_eq] at h
  have hl := byteL_len s
  unfold headC
  cases hb : byteL s with
  | nil => rw [hb] at hl; simp at hl; omega
  | cons c r => rw [hb] at h; simp only [List.all_cons, Bool.and_eq_true] at h; exact h.1.1
theorem kindD_name (s : ByteArray) : decide (kindD s = 1) = nameB s := by
  unfold kindD nameB keptB
  cases hw : writtenB s with
  | false => simp
  | true =>
    have h1 := written_head hw
    simp only [if_true, Bool.true_and]
    generalize headC s = c at h1
    simp only [wordC, lowC, uppC, digC, Bool.or_eq_true, Bool.and_eq_true, decide_eq_true_eq] at h1 ⊢
    by_cases e1 : s = sInput
    · rw [if_pos e1]; simp only [e1, decide_true, Bool.true_or, Bool.not_true, Bool.and_false]; repeat' split
      all_goals simp
    · by_cases e2 : s = sOutput
      · rw [if_neg e1, if_pos e2]; simp only [e2, decide_true, Bool.true_or, Bool.or_true, Bool.not_true, Bool.and_false]; repeat' split
        all_goals simp
      · by_cases e3 : s = sNot
        · rw [if_neg e1, if_neg e2, if_pos e3]; simp only [e3, decide_true, Bool.true_or, Bool.or_true, Bool.not_true, Bool.and_false]; repeat' split
          all_goals simp
        · rw [if_neg e1, if_neg e2, if_neg e3]
          simp only [e1, e2, e3, decide_false, Bool.or_self, Bool.not_false, Bool.and_true]
          rw [Bool.eq_iff_iff]
          simp only [Bool.and_eq_true, decide_eq_true_eq]
          repeat' split
          all_goals omega
theorem kindD_var (s : ByteArray) : decide (kindD s = 2) = varB s := by
  unfold kindD varB
  cases hw : writtenB s with
  | false => simp
  | true =>
    have h1 := written_head hw
    simp only [if_true, Bool.true_and]
    generalize headC s = c at h1
    simp only [wordC, lowC, uppC, digC, Bool.or_eq_true, Bool.and_eq_true, decide_eq_true_eq] at h1 ⊢
    rw [Bool.eq_iff_iff]
    simp only [Bool.and_eq_true, decide_eq_true_eq]
    repeat' split
    all_goals omega

set_option maxRecDepth 100000 in
set_option maxHeartbeats 2000000 in
theorem kindOf_any (s : ByteArray) (w : World) : Calls Try.prog 101 #[.string s] w fun e w' => e = .returned (.int .i64 (kindD s)) ∧ w' = w := by
  by_cases hw : 1 ≤ s.size ∧ s.size ≤ 64
  · obtain ⟨h1, h2⟩ := hw
    have g1 : ¬ (s.size : Int) < 1 := by omega
    have g2 : ¬ 64 < (s.size : Int) := by omega
    go_enter Try.func101, Try.ntmps101
    go_wp2_with fail
    go_loopw [16, 3] (fun i dg wr => ∃ k : Nat, k ≤ s.size ∧ i = .int .i64 (k : Int) ∧ dg = .bool (((byteL s).take k).all fun c => decide (c ≤ 57)) ∧ wr = w ∧ ((byteL s).take k).all wordC = true) (fun i _ _ => s.size - (intOf i).toNat)
    case atStart => exact ⟨0, by omega, rfl, rfl, rfl, rfl⟩
    case round =>
      obtain ⟨k, hk, rfl, rfl, hw1, hall⟩ := hrel
      have hw1 := hw1.symm
      subst hw1
      by_cases hlt : k < s.size
      · have hlt1 : (k : Int) < s.size := by omega
        have hk0 : (0 : Int) ≤ k := by omega
        have hat := byteL_at s hlt
        have hst := all_step wordC (byteL s) hat
        have hst2 := all_step (fun c => decide (c ≤ 57)) (byteL s) hat
        rw [hall, Bool.true_and] at hst
        obtain ⟨dg, hdg⟩ : ∃ b, (((byteL s).take k).all fun c => decide (c ≤ 57)) = b := ⟨_, rfl⟩
        rw [hdg] at hst2
        rw [hdg]
        have hcl := lexWord_any ((s[k].toNat : Nat) : Int) w
        cases hc : wordC ((s[k].toNat : Nat) : Int) with
        | false =>
          rw [hc] at hcl
          have hno := all_not wordC _ hat hc
          have hE : kindD s = 0 := by unfold kindD writtenB; rw [hno]; rfl
          have Xhat := Lib.hid hat
          have Xhst := Lib.hid hst
          have Xhst2 := Lib.hid hst2
          have Xhcl := Lib.hid hcl
          have Xhc := Lib.hid hc
          have Xhno := Lib.hid hno
          have Xhall := Lib.hid hall
          have Xhdg := Lib.hid hdg
          have XhE := Lib.hid hE
          clear hat hst hst2 hcl hc hno hall hdg hE
          go_wp2_with fail
          refine Xhcl.out.mono ?_
          rintro e w1 ⟨rfl, hw1⟩; have hw1 := hw1.symm; subst hw1
          go_wp2_with fail
          go_ret
          exact ⟨by rw [XhE.out]; rfl, rfl⟩
        | true =>
          rw [hc] at hcl hst
          have Xhat := Lib.hid hat
          have Xhst := Lib.hid hst
          have Xhst2 := Lib.hid hst2
          have Xhcl := Lib.hid hcl
          have Xhc := Lib.hid hc
          have Xhall := Lib.hid hall
          have Xhdg := Lib.hid hdg
          clear hat hst hst2 hcl hc hall hdg
          cases dg
          all_goals go_wp2_with fail
          all_goals refine Xhcl.out.mono ?_
          all_goals (rintro e w1 ⟨rfl, hw1⟩; have hw1 := hw1.symm; subst hw1)
          all_goals go_wp2_with fail
          all_goals go_roundw
          all_goals (first | exact ⟨k + 1, by omega, by go_num, by rw [Xhst2.out]; rfl, by trivial, Xhst.out⟩ | (simp [intOf]; omega))
      · obtain rfl : k = s.size := by omega
        rw [List.take_of_length_le (by rw [byteL_len]; omega)] at hall ⊢
        have hW : writtenB s = true := by unfold writtenB; rw [hall, decide_eq_true h1, decide_eq_true h2]; rfl
        have h0 : 0 < s.size := by omega
        have hat := byteL_at s h0
        have hhd : headC s = ((s[0].toNat : Nat) : Int) := by
          unfold headC
          cases hb : byteL s with
          | nil => rw [hb] at hat; simp at hat
          | cons c r => rw [hb] at hat; simpa using hat
        obtain ⟨c0, hc0⟩ : ∃ c : Int, ((s[0].toNat : Nat) : Int) = c := ⟨_, rfl⟩
        obtain ⟨dg, hdg⟩ : ∃ b, ((byteL s).all fun c => decide (c ≤ 57)) = b := ⟨_, rfl⟩
        have hwc := written_head hW
        have hrg : 48 ≤ c0 ∧ c0 ≤ 122 := by
          rw [hhd, hc0] at hwc
          simp only [wordC, lowC, uppC, digC, Bool.or_eq_true, Bool.and_eq_true, decide_eq_true_eq] at hwc
          omega
        have hwr : wrap32 ((s[0].toNat : Nat) : Int) = c0 := by rw [hc0]; exact IntWalk.wrap32_in (by omega) (by omega)
        obtain ⟨i1, hi1⟩ : ∃ b, (s.toList == [105, 110, 112, 117, 116]) = b := ⟨_, rfl⟩
        obtain ⟨i2, hi2⟩ : ∃ b, (s.toList == [111, 117, 116, 112, 117, 116]) = b := ⟨_, rfl⟩
        obtain ⟨i3, hi3⟩ : ∃ b, (s.toList == [110, 111, 116]) = b := ⟨_, rfl⟩
        have j1 : (s = sInput) = (i1 = true) := by
          rw [← hi1]
          have e : sInput.toList = [105, 110, 112, 117, 116] := by kernel_rfl
          rw [← e]; exact bytes_eq s sInput
        have j2 : (s = sOutput) = (i2 = true) := by
          rw [← hi2]
          have e : sOutput.toList = [111, 117, 116, 112, 117, 116] := by kernel_rfl
          rw [← e]; exact bytes_eq s sOutput
        have j3 : (s = sNot) = (i3 = true) := by
          rw [← hi3]
          have e : sNot.toList = [110, 111, 116] := by kernel_rfl
          rw [← e]; exact bytes_eq s sNot
        have hK : kindD s = (if 48 ≤ c0 ∧ c0 ≤ 57 then (if dg = true then 3 else 0) else if 65 ≤ c0 ∧ c0 ≤ 90 then 2 else if c0 = 95 then 0 else if i1 = true then 5 else if i2 = true then 6 else if i3 = true then 7 else 1) := by
          unfold kindD
          rw [hW, hhd, hc0, hdg]
          simp only [if_true, j1, j2, j3, digC, uppC, Bool.and_eq_true, decide_eq_true_eq]
        clear hwc j1 j2 j3
        rw [hdg]
        have hsz : (0 : Int) < s.size := by omega
        clear hW hat hhd hall hdg hlt hk hc0
        have XhK := Lib.hid hK
        have Xhrg := Lib.hid hrg
        clear hK hrg
        go_wp2_with fail
        all_goals go_ret
        all_goals (refine ⟨?_, rfl⟩; rw [XhK.out]; refine congrArg (fun z => Ending.returned (Value.int .i64 z)) ?_; (try simp only [beq_iff_eq, beq_eq_false_iff_ne] at *); repeat' split)
        all_goals (first | rfl | omega | (simp_all; done) | (simp_all; omega))
  · have hE : kindD s = 0 := by
      unfold kindD writtenB
      rw [if_neg]
      intro h
      rw [Bool.and_eq_true, Bool.and_eq_true, decide_eq_true_eq, decide_eq_true_eq] at h
      exact hw h.2
    have XhE := Lib.hid hE
    clear hE
    rcases Nat.lt_or_ge s.size 1 with h1 | h1
    · have g1 : (s.size : Int) < 1 := by omega
      clear hw h1
      go_enter Try.func101, Try.ntmps101
      go_wp2_with fail
      go_ret
      exact ⟨by rw [XhE.out]; rfl, rfl⟩
    · have g1 : ¬ (s.size : Int) < 1 := by omega
      have g2 : 64 < (s.size : Int) := by omega
      clear hw h1
      go_enter Try.func101, Try.ntmps101
      go_wp2_with fail
      go_ret
      exact ⟨by rw [XhE.out]; rfl, rfl⟩

set_option maxRecDepth 100000 in
theorem lexName_any (s : ByteArray) (w : World) : Calls Try.prog 95 #[.string s] w fun e w' => e = .returned (.bool (nameB s)) ∧ w' = w := by
  have hk := kindOf_any s w
  have hE := kindD_name s
  obtain ⟨k, hkd⟩ : ∃ k, kindD s = k := ⟨_, rfl⟩
  rw [hkd] at hk hE
  have Xhk := Lib.hid hk
  have XhE := Lib.hid hE
  have Xhkd := Lib.hid hkd
  clear hk hE hkd
  go_enter Try.func95, Try.ntmps95
  go_wp2_with fail
  refine Xhk.out.mono ?_
  rintro e w1 ⟨rfl, hw1⟩; have hw1 := hw1.symm; subst hw1
  go_wp2_with fail
  go_ret
  exact ⟨by rw [← XhE.out]; rfl, rfl⟩
set_option maxRecDepth 100000 in
theorem lexVar_any (s : ByteArray) (w : World) : Calls Try.prog 102 #[.string s] w fun e w' => e = .returned (.bool (varB s)) ∧ w' = w := by
  have hk := kindOf_any s w
  have hE := kindD_var s
  obtain ⟨k, hkd⟩ : ∃ k, kindD s = k := ⟨_, rfl⟩
  rw [hkd] at hk hE
  have Xhk := Lib.hid hk
  have XhE := Lib.hid hE
  have Xhkd := Lib.hid hkd
  clear hk hE hkd
  go_enter Try.func102, Try.ntmps102
  go_wp2_with fail
  refine Xhk.out.mono ?_
  rintro e w1 ⟨rfl, hw1⟩; have hw1 := hw1.symm; subst hw1
  go_wp2_with fail
  go_ret
  exact ⟨by rw [← XhE.out]; rfl, rfl⟩
theorem const_int (s : ByteArray) : decide ((s.size : Int) ≤ 1024) = constB s := by unfold constB; rw [decide_eq_decide]; omega
set_option maxRecDepth 100000 in
theorem lexConst_any (s : ByteArray) (w : World) : Calls Try.prog 103 #[.string s] w fun e w' => e = .returned (.bool (constB s)) ∧ w' = w := by
  rw [← const_int]
  go_enter Try.func103, Try.ntmps103
  go_wp2_with fail
  go_ret
  exact ⟨rfl, rfl⟩
set_option maxRecDepth 100000 in
theorem refConst_any (s : ByteArray) (w : World) : Calls Try.prog 105 #[.string s] w fun e w' => e = .returned (.bool (constB s)) ∧ w' = w := by
  rw [← const_int]
  go_enter Try.func105, Try.ntmps105
  go_wp2_with fail
  go_ret
  exact ⟨rfl, rfl⟩
set_option maxRecDepth 100000 in
theorem refKept_any (s : ByteArray) (w : World) : Calls Try.prog 108 #[.string s] w fun e w' => e = .returned (.bool (keptB s)) ∧ w' = w := by
  obtain ⟨i1, hi1⟩ : ∃ b, (s.toList == [105, 110, 112, 117, 116]) = b := ⟨_, rfl⟩
  obtain ⟨i2, hi2⟩ : ∃ b, (s.toList == [111, 117, 116, 112, 117, 116]) = b := ⟨_, rfl⟩
  obtain ⟨i3, hi3⟩ : ∃ b, (s.toList == [110, 111, 116]) = b := ⟨_, rfl⟩
  have j1 : (s = sInput) = (i1 = true) := by
    rw [← hi1]
    have e : sInput.toList = [105, 110, 112, 117, 116] := by kernel_rfl
    rw [← e]; exact bytes_eq s sInput
  have j2 : (s = sOutput) = (i2 = true) := by
    rw [← hi2]
    have e : sOutput.toList = [111, 117, 116, 112, 117, 116] := by kernel_rfl
    rw [← e]; exact bytes_eq s sOutput
  have j3 : (s = sNot) = (i3 = true) := by
    rw [← hi3]
    have e : sNot.toList = [110, 111, 116] := by kernel_rfl
    rw [← e]; exact bytes_eq s sNot
  have hE : keptB s = (i1 || i2 || i3) := by
    unfold keptB
    simp only [j1, j2, j3, Bool.decide_eq_true]
  clear j1 j2 j3
  have XhE := Lib.hid hE
  clear hE
  go_enter Try.func108, Try.ntmps108
  cases i1 <;> cases i2
  all_goals go_wp2_with fail
  all_goals go_ret
  all_goals exact ⟨by rw [XhE.out]; rfl, rfl⟩

theorem head_at {s : ByteArray} (h : 0 < s.size) : ((s[0].toNat : Nat) : Int) = headC s := by
  have hat := byteL_at s h
  unfold headC
  cases hb : byteL s with
  | nil => rw [hb] at hat; simp at hat
  | cons c r => rw [hb] at hat; simpa using hat.symm
theorem written_pos {s : ByteArray} (h : writtenB s = true) : 0 < s.size := by
  unfold writtenB at h
  rw [Bool.and_eq_true, Bool.and_eq_true, decide_eq_true_eq, decide_eq_true_eq] at h
  omega
set_option maxRecDepth 100000 in
theorem refVar_any (s : ByteArray) (hs : s.size ≤ 1073741824) (w : World) : Calls Try.prog 104 #[.string s] w fun e w' => e = .returned (.bool (varB s)) ∧ w' = w := by
  have hw := refWritten_any s hs w
  cases hb : writtenB s with
  | false =>
    have hE : varB s = false := by unfold varB; rw [hb]; rfl
    rw [hb] at hw
    have Xhw := Lib.hid hw
    have XhE := Lib.hid hE
    have Xhb := Lib.hid hb
    clear hw hE hb
    go_enter Try.func104, Try.ntmps104
    go_wp2_with fail
    refine Xhw.out.mono ?_
    rintro e w1 ⟨rfl, hw1⟩; have hw1 := hw1.symm; subst hw1
    go_wp2_with fail
    go_ret
    exact ⟨by rw [XhE.out]; rfl, rfl⟩
  | true =>
    have h0 := written_pos hb
    have hhd := head_at h0
    have hE : varB s = uppC (headC s) := by unfold varB; rw [hb]; rfl
    obtain ⟨c, hc⟩ : ∃ c, headC s = c := ⟨_, rfl⟩
    rw [hc] at hhd hE
    have hg := refGreat_any c w
    have h0' : (0 : Int) < s.size := by omega
    rw [hb] at hw
    have Xhw := Lib.hid hw
    have XhE := Lib.hid hE
    have Xhb := Lib.hid hb
    have Xhc := Lib.hid hc
    have Xhg := Lib.hid hg
    clear hw hE hb hc hg
    go_enter Try.func104, Try.ntmps104
    go_wp2_with fail
    refine Xhw.out.mono ?_
    rintro e w1 ⟨rfl, hw1⟩; have hw1 := hw1.symm; subst hw1
    go_wp2_with fail
    refine Xhg.out.mono ?_
    rintro e w1 ⟨rfl, hw1⟩; have hw1 := hw1.symm; subst hw1
    go_wp2_with fail
    go_ret
    exact ⟨by rw [XhE.out]; rfl, rfl⟩
set_option maxRecDepth 100000 in
theorem refName_any (s : ByteArray) (hs : s.size ≤ 1073741824) (w : World) : Calls Try.prog 100 #[.string s] w fun e w' => e = .returned (.bool (nameB s)) ∧ w' = w := by
  have hw := refWritten_any s hs w
  cases hb : writtenB s with
  | false =>
    have hE : nameB s = false := by unfold nameB; rw [hb]; rfl
    rw [hb] at hw
    have Xhw := Lib.hid hw
    have XhE := Lib.hid hE
    have Xhb := Lib.hid hb
    clear hw hE hb
    go_enter Try.func100, Try.ntmps100
    go_wp2_with fail
    refine Xhw.out.mono ?_
    rintro e w1 ⟨rfl, hw1⟩; have hw1 := hw1.symm; subst hw1
    go_wp2_with fail
    go_ret
    exact ⟨by rw [XhE.out]; rfl, rfl⟩
  | true =>
    have h0 := written_pos hb
    have hhd := head_at h0
    have hE : nameB s = (lowC (headC s) && !keptB s) := by unfold nameB; rw [hb]; rfl
    obtain ⟨c, hc⟩ : ∃ c, headC s = c := ⟨_, rfl⟩
    rw [hc] at hhd hE
    have hg := refSmall_any c w
    have hk := refKept_any s w
    have h0' : (0 : Int) < s.size := by omega
    rw [hb] at hw
    obtain ⟨b1, hb1⟩ : ∃ b, lowC c = b := ⟨_, rfl⟩
    obtain ⟨b2, hb2⟩ : ∃ b, keptB s = b := ⟨_, rfl⟩
    rw [hb1] at hg hE
    rw [hb2] at hk hE
    have Xhw := Lib.hid hw
    have XhE := Lib.hid hE
    have Xhb := Lib.hid hb
    have Xhc := Lib.hid hc
    have Xhg := Lib.hid hg
    have Xhk := Lib.hid hk
    have Xhb1 := Lib.hid hb1
    have Xhb2 := Lib.hid hb2
    clear hw hE hb hc hg hk hb1 hb2
    cases b1
    all_goals go_enter Try.func100, Try.ntmps100
    all_goals go_wp2_with fail
    all_goals refine Xhw.out.mono ?_
    all_goals (rintro e w1 ⟨rfl, hw1⟩; have hw1 := hw1.symm; subst hw1)
    all_goals go_wp2_with fail
    all_goals refine Xhg.out.mono ?_
    all_goals (rintro e w1 ⟨rfl, hw1⟩; have hw1 := hw1.symm; subst hw1)
    all_goals go_wp2_with fail
    · go_ret
      exact ⟨by rw [XhE.out]; rfl, rfl⟩
    · refine Xhk.out.mono ?_
      rintro e w1 ⟨rfl, hw1⟩; have hw1 := hw1.symm; subst hw1
      go_wp2_with fail
      go_ret
      exact ⟨by rw [XhE.out]; rfl, rfl⟩
end Go.Proofs
