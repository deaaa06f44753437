/- Layer 4, the law: filled. -/
import Derived.Test.YtbaemcmagkmjiaaProg
import Derived.Test.YtbaemcmagkmjiaaRelX
namespace Go.Proofs
open Go.RowKit Go.Ink
set_option linter.unusedVariables false
set_option linter.unusedSimpArgs false
attribute [local go_sem] Oper.semAt_some

set_option maxRecDepth 100000 in
theorem filled_bad (arity : Int) (hbad : arity < 0 ∨ 16 < arity) (m : Nat) (v : Value) (tuples : List (List Int)) (w : World) (hs : ListsIn m w v tuples) :
    Calls Try.prog 6 #[.int .i64 arity, v] w fun e w' => e = .returned (.tuple #[.pointer none, .pointer none, .bool true]) ∧ w' = w := by
  obtain ⟨a, c, rfl, hlt, hct, het⟩ := id hs
  have Xhs := Lib.hid hs
  have Xhet := Lib.hid het
  clear hs het
  go_enter Try.func6, Try.ntmps6
  go_wp2_with fail
  refine (relNew_bad arity hbad w).mono ?_
  rintro e w1 ⟨rfl, hw1⟩
  have hw1 := hw1.symm
  subst hw1
  go_wp2_with fail
  refine (refNew_bad arity hbad w).mono ?_
  rintro e w1 ⟨rfl, hw1⟩
  have hw1 := hw1.symm
  subst hw1
  go_wp2_with fail
  refine (num_any _ _).mono ?_
  rintro e w1 ⟨rfl, hw1⟩
  have hw1 := hw1.symm
  subst hw1
  go_wp2_with fail
  go_loopw [11] (fun i wr => i = .int .i64 0 ∧ wr = w) (fun i _ => 0)
  case atStart => exact ⟨rfl, rfl⟩
  case round =>
    obtain ⟨rfl, hwr⟩ := hrel
    have hwr := hwr.symm
    subst hwr
    by_cases h0 : tuples.length = 0
    · have h1 : ¬ ((0 : Int) < tuples.length) := by omega
      go_wp2_with fail
      go_ret3
      exact ⟨rfl, rfl⟩
    · have h1 : (0 : Int) < tuples.length := by omega
      clear h0
      go_wp2_with fail
      go_ret3
      exact ⟨rfl, rfl⟩

set_option maxRecDepth 100000 in
set_option maxHeartbeats 1000000 in
theorem filled_any (n : Nat) (hn : n ≤ 16) (m : Nat) (v : Value) (tuples : List (List Int)) (w : World) (hs : ListsIn m w v tuples) (hm : m ≤ w.heap.size) (hok : ∀ t ∈ tuples, okT t) (hlen : tuples.length ≤ 33554432) :
    Calls Try.prog 6 #[.int .i64 (n : Int), v] w fun e w' => ∃ B P K s F Bf vL svs, e = .returned (.tuple #[.pointer (some ⟨B, 0, none⟩), .pointer (some ⟨Bf, 0, none⟩), .bool true]) ∧
      Both B n P K s F Bf vL svs w' ∧ s.ts.length ≤ tuples.length ∧ Keep (fun b => b < w.heap.size) w w' ∧ ∀ b, b < w.heap.size → Outside s F b := by
  obtain ⟨a, c, rfl, hlt, hct, het⟩ := id hs
  have Xhs := Lib.hid hs
  have Xhet := Lib.hid het
  have Xhok := Lib.hid hok
  clear hs het hok
  go_enter Try.func6, Try.ntmps6
  go_wp2_with fail
  refine (relNew_any n hn w).mono ?_
  rintro e W1 ⟨rfl, k1, tag, P, K, hO1, htag⟩
  have z1 := k1.size
  have Xk1 := Lib.hid k1
  have XhO1 := Lib.hid hO1
  have Xhtag := Lib.hid htag
  clear k1 hO1 htag
  go_wp2_with fail
  refine (refNew_any n hn W1).mono ?_
  rintro e W2 ⟨rfl, k2, z2, hR2⟩
  have hboth : Both (w.heap.size + 2) n P K ⟨tag, [], .slice none 0 0, []⟩ (fun b => b = W1.heap.size) W1.heap.size (.slice none 0 0) [] W2 :=
    ⟨⟨XhO1.out.keep k2 (fun _ _ _ _ => trivial), by simp⟩, hR2, fun b hb => by
      cases hT : tag b with
      | none => exact hT
      | some T => have := XhO1.out.lt b T hT; omega, fun b hb => by omega⟩
  have hout : ∀ b, b < w.heap.size → Outside ⟨tag, [], .slice none 0 0, []⟩ (fun b => b = W1.heap.size) b := fun b hb => ⟨by
    cases hT : tag b with
    | none => exact hT
    | some T => have := Xhtag.out b T hT; omega, fun e => by omega⟩
  have hK2 : Keep (fun b => b < w.heap.size) w W2 := (Xk1.out.mono fun _ _ _ => trivial).trans (k2.mono fun _ _ _ => trivial)
  obtain ⟨Bf, hBf⟩ : ∃ Bf, W1.heap.size = Bf := ⟨_, rfl⟩
  obtain ⟨B, hB⟩ : ∃ B, w.heap.size + 2 = B := ⟨_, rfl⟩
  rw [hBf] at hboth hout
  rw [hB] at hboth
  rw [hBf, hB]
  clear hR2 k2 z2
  have Xhboth := Lib.hid hboth
  have Xhout := Lib.hid hout
  have XhK2 := Lib.hid hK2
  have XhBf := Lib.hid hBf
  have XhB := Lib.hid hB
  clear hboth hout hK2 hBf hB
  go_wp2_with fail
  refine (num_any _ _).mono ?_
  rintro e W2' ⟨rfl, hW2'⟩
  have hW2' := hW2'.symm
  subst hW2'
  go_wp2_with fail
  go_loopw [11] (fun i wr => ∃ (k : Nat) (s : RelS) (F : Nat → Prop) (vL : Value) (svs : List Value), k ≤ tuples.length ∧ i = .int .i64 (k : Int) ∧ Both B n P K s F Bf vL svs wr ∧ s.ts.length ≤ k ∧ Keep (fun b => b < w.heap.size) w wr ∧ ∀ b, b < w.heap.size → Outside s F b) (fun i _ => tuples.length - (intOf i).toNat)
  case atStart => exact ⟨0, _, _, _, _, by omega, rfl, Xhboth.out, by simp, XhK2.out, Xhout.out⟩
  case round =>
    obtain ⟨k, s, F, vL, svs, hk, rfl, hb, hts, hK, ho⟩ := hrel
    by_cases hlt' : k < tuples.length
    · obtain ⟨t, ht⟩ : ∃ t, tuples[k]? = some t := ⟨_, List.getElem?_eq_getElem hlt'⟩
      obtain ⟨b, o, rfl, hbm, sv, hcell, hsv⟩ := Xhet.out k t ht
      have hcell := hK.cell hcell (by simp only; omega)
      simp only [Nat.mul_one] at hcell
      have hbw : b < wr.heap.size := World.block_lt_of_cell? _ _ hcell
      have hlt1 : (k : Int) < tuples.length := by omega
      have hk0 : (0 : Int) ≤ k := by omega
      have hszk := hK.size
      have hsvr := ints_stay hsv (m := m) (hK.mono fun b _ h => by omega) (Nat.le_refl _)
      obtain ⟨at', ct', rfl, _, _, _⟩ := id hsvr
      have hadds := adds_any hb (by omega) m _ t hsvr (by omega) (fun b hb' => ho b (by omega)) (Xhok.out t (List.mem_of_getElem? ht))
      have hlen' : (addT n s.ts t).length ≤ k + 1 := by have := addT_len n s.ts t; omega
      clear hsv hsvr ht
      have Xhadds := Lib.hid hadds
      have Xhb := Lib.hid hb
      have XhK := Lib.hid hK
      have Xho := Lib.hid ho
      clear hadds hb hK ho
      go_wp2_with fail
      refine Xhadds.out.mono ?_
      rintro e w2 ⟨rfl, s', F', vL', svs', hb', hts', hon, hK'⟩
      have ho' : ∀ b, b < w.heap.size → Outside s' F' b := fun b hb'' => hon.out (by omega) (Xho.out b hb'')
      have hK2' : Keep (fun b => b < w.heap.size) w w2 := XhK.out.trans (hK'.mono fun b _ h => Xho.out b h)
      have hlen2 : s'.ts.length ≤ k + 1 := by rw [hts']; exact hlen'
      clear hts' hon hK'
      have Xhb' := Lib.hid hb'
      have Xho' := Lib.hid ho'
      have XhK2' := Lib.hid hK2'
      clear hb' ho' hK2'
      go_wp2_with fail
      go_roundw
      case rel => exact ⟨k + 1, s', F', vL', svs', by omega, by go_num, Xhb'.out, hlen2, XhK2'.out, Xho'.out⟩
      case measure => simp [intOf]; omega
    · obtain rfl : k = tuples.length := by omega
      have Xhb := Lib.hid hb
      have XhK := Lib.hid hK
      have Xho := Lib.hid ho
      clear hb hK ho
      go_wp2_with fail
      go_ret3
      exact ⟨B, P, K, s, F, Bf, vL, svs, rfl, Xhb.out, hts, XhK.out, Xho.out⟩
end Go.Proofs
