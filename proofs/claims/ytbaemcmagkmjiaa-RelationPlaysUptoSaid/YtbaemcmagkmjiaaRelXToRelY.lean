/- Layer 4, the law: adds (a tuple is added by both). -/
import Derived.Test.YtbaemcmagkmjiaaProg
import Derived.Test.YtbaemcmagkmjiaaRelVToRelW
import Derived.Test.YtbaemcmagkmjiaaRelGToRelH
namespace Go.Proofs
open Go.RowKit Go.Ink
set_option linter.unusedVariables false
set_option linter.unusedSimpArgs false
attribute [local go_sem] Oper.semAt_some

/-- the program's relation and the document's, with the same tuples, in memories apart -/
structure Both (B n P K : Nat) (s : RelS) (F : Nat → Prop) (Bf : Nat) (vL : Value) (svs : List Value) (w : World) : Prop where
  rel : RelInv B n P K s w
  ref : RefOwn F w Bf n s.ts vL svs
  apart : ∀ b, F b → s.tag b = none
  lt : ∀ b, F b → b < w.heap.size
theorem Both.keep {B n P K : Nat} {s : RelS} {F : Nat → Prop} {Bf : Nat} {vL : Value} {svs : List Value} {w w' : World} {C : Nat → Prop} (h : Both B n P K s F Bf vL svs w) (hK : Keep C w w') (hC : ∀ b, ¬ s.tag b = none ∨ F b → b < w.heap.size → C b) : Both B n P K s F Bf vL svs w' :=
  ⟨h.rel.keep (hK.mono fun b hb hf => hC b (.inl hf) hb), h.ref.keep hK (fun b hb hl => hC b (.inr hb) hl), h.apart, fun b hb => Nat.lt_of_lt_of_le (h.lt b hb) hK.size⟩

/-- what both do not own -/
def Outside (s : RelS) (F : Nat → Prop) (b : Nat) : Prop := s.tag b = none ∧ ¬ F b
/-- how both may have gone on -/
structure BothOn (s : RelS) (F : Nat → Prop) (m : Nat) (s' : RelS) (F' : Nat → Prop) : Prop where
  bd : RelBd s m s'
  new : ∀ b, F' b → F b ∨ m ≤ b
theorem BothOn.refl (s : RelS) (F : Nat → Prop) (m : Nat) : BothOn s F m s F := ⟨RelBd.refl _ _, fun b h => .inl h⟩
theorem BothOn.trans {s s' s'' : RelS} {F F' F'' : Nat → Prop} {m m' : Nat} (h : BothOn s F m s' F') (g : BothOn s' F' m' s'' F'') (hm : m ≤ m') : BothOn s F m s'' F'' :=
  ⟨h.bd.trans g.bd hm, fun b hb => (g.new b hb).elim (h.new b) (fun h1 => .inr (by omega))⟩
theorem BothOn.out {s s' : RelS} {F F' : Nat → Prop} {m : Nat} (h : BothOn s F m s' F') {b : Nat} (hb : b < m) (ho : Outside s F b) : Outside s' F' b := by
  refine ⟨?_, fun hF => (h.new b hF).elim ho.2 (fun h1 => by omega)⟩
  cases hT : s'.tag b with
  | none => rfl
  | some T =>
    rcases h.bd.new b T hT with ⟨T', h1⟩ | h1
    · rw [ho.1] at h1; cases h1
    · omega

theorem RefOwn.cut {F : Nat → Prop} {w : World} {B n : Nat} {ts : List (List Int)} {vL : Value} {svs : List Value} (h : RefOwn F w B n ts vL svs) : RefOwn (fun b => F b ∧ b < w.heap.size) w B n ts vL svs := by
  refine ⟨h.box, h.own, h.nb, fun b hb => ⟨h.fl b hb, (World.ownsRow.lt h.own b hb).2⟩, ⟨h.fb, heap_lt h.box⟩, h.rows.1, fun j t ht => ?_⟩
  obtain ⟨a, c, h1, h2, h3, h4⟩ := h.rows.2 j t ht
  refine ⟨a, c, h1, h2, h3, fun k x hk => ?_⟩
  obtain ⟨b, o, e1, e2, e3, e4, e5, e6⟩ := h4 k x hk
  exact ⟨b, o, e1, ⟨e2, e5⟩, e3, e4, e5, e6⟩

theorem addT_pre (n : Nat) (ts : List (List Int)) (t : List Int) : ∃ us, addT n ts t = ts ++ us := by
  unfold addT
  split
  · exact ⟨[t], rfl⟩
  · exact ⟨[], by simp⟩
theorem addT_len (n : Nat) (ts : List (List Int)) (t : List Int) : (addT n ts t).length ≤ ts.length + 1 := by
  unfold addT
  split
  · simp
  · omega

set_option maxRecDepth 100000 in
set_option maxHeartbeats 2000000 in
theorem adds_any {B n P KM : Nat} {s : RelS} {F : Nat → Prop} {Bf : Nat} {vL : Value} {svs : List Value} {w : World} (h : Both B n P KM s F Bf vL svs w) (hfew : s.ts.length < 67108864) (m : Nat) (v : Value) (l : List Int) (hs : IntsIn m w v l) (hm : m ≤ w.heap.size) (hmo : ∀ b, b < m → Outside s F b) (hok : okT l) :
    Calls Try.prog 14 #[.pointer (some ⟨B, 0, none⟩), .pointer (some ⟨Bf, 0, none⟩), v] w fun e w' => e = .returned (.bool true) ∧
      ∃ s' F' vL' svs', Both B n P KM s' F' Bf vL' svs' w' ∧ s'.ts = addT n s.ts l ∧ BothOn s F w.heap.size s' F' ∧ Keep (Outside s F) w w' := by
  obtain ⟨a, c, rfl, hlt, hct, het⟩ := id hs
  have Xh := Lib.hid h
  have Xhs := Lib.hid hs
  have Xhet := Lib.hid het
  have Xhmo := Lib.hid hmo
  have Xhok := Lib.hid hok
  clear h hs het hmo hok
  go_enter Try.func14, Try.ntmps14
  go_wp2_with fail
  refine (lent_any m _ l w Xhs.out hm).mono ?_
  rintro e W1 ⟨v1, rfl, k1, hL1⟩
  have hz1 := k1.size
  have hB1 := Xh.out.keep k1 (fun b _ hb => hb)
  have hi1 := hL1.ints hlt
  obtain ⟨g, cap, rfl, ho1⟩ := id hL1
  have hcp := own_cap ho1
  have hout : ∀ b, w.heap.size ≤ b → Outside s F b := fun b hb => ⟨by
    cases hT : s.tag b with
    | none => rfl
    | some T => have := Xh.out.rel.own.lt b T hT; omega, fun hF => by have := Xh.out.lt b hF; omega⟩
  have hfree : FreeOf s.tag (.slice (some ⟨g, 0, none⟩) l.length cap) := fun a n' c' e => by
    injection e with e1
    injection e1 with e1
    subst e1
    exact (hout g hcp.2.2.2).1
  have hAdd := relAdd_any hB1.rel.own (by omega) W1.heap.size _ l hi1 (Nat.le_refl _) Xhok.out hfree
  clear hi1 hfree
  have Xk1 := Lib.hid k1
  have XhL1 := Lib.hid hL1
  have XhB1 := Lib.hid hB1
  have XhAdd := Lib.hid hAdd
  have Xhout := Lib.hid hout
  have Xho1 := Lib.hid ho1
  have Xhcp := Lib.hid hcp
  clear k1 hL1 hB1 hAdd hout ho1 hcp
  go_wp2_with fail
  refine XhAdd.out.mono ?_
  rintro e W2 ⟨rfl, k2, tag2, vD2, hO2, hle2, hnew2⟩
  obtain ⟨s2, hs2⟩ : ∃ s2 : RelS, s2 = ⟨tag2, addT n s.ts l, vD2, s.lm⟩ := ⟨_, rfl⟩
  have hrel2 : RelInv B n P KM s2 W2 := by rw [hs2]; exact ⟨hO2, by have := addT_len n s.ts l; simp only; omega⟩
  have hbd2 : RelBd s W1.heap.size s2 := by
    rw [hs2]
    exact ⟨addT_pre n s.ts l, hle2, hnew2, fun _ h => h⟩
  have hz2 := k2.size
  have hFt : ∀ b, F b → s2.tag b = none := fun b hF => by
    cases hT : s2.tag b with
    | none => rfl
    | some T =>
      rcases hbd2.new b T hT with ⟨T', h1⟩ | h1
      · rw [Xh.out.apart b hF] at h1; cases h1
      · have := Xh.out.lt b hF; omega
  have href2 := XhB1.out.ref.keep k2 (fun b hb _ => Xh.out.apart b hb)
  have hK12 : Keep (Outside s F) w W2 := (Xk1.out.mono fun b hb _ => hb).trans (k2.mono fun b _ hb => hb.1)
  have hs2v := ints_stay Xhs.out (m := m) (hK12.mono fun b hb h => Xhmo.out b h) (Nat.le_refl _)
  have hcpg := Xhcp.out
  have hg0 := Xhout.out g hcpg.2.2.2
  have hL2 := XhL1.out.keep k2 (fun b hb _ => (Xhout.out b hb).1)
  have hRA := refAdd_any href2 (by omega) m _ l hs2v (by omega)
  have hts2 : s2.ts = addT n s.ts l := by rw [hs2]
  have hlt2 : ∀ b T, s2.tag b = some T → b < W2.heap.size := fun b T hb => hrel2.own.lt b T hb
  clear k2 hO2 hle2 hnew2 hs2 href2 hs2v
  have Xhrel2 := Lib.hid hrel2
  have Xhbd2 := Lib.hid hbd2
  have XhFt := Lib.hid hFt
  have XhK12 := Lib.hid hK12
  have XhL2 := Lib.hid hL2
  have XhRA := Lib.hid hRA
  have Xhts2 := Lib.hid hts2
  have Xhlt2 := Lib.hid hlt2
  have Xhcpg := Lib.hid hcpg
  clear hrel2 hbd2 hFt hK12 hL2 hRA hts2 hlt2 hcpg
  go_wp2_with fail
  refine XhRA.out.mono ?_
  rintro e W3 ⟨rfl, k3, F3, vL3, svs3, hR3, hF3⟩
  have hR3' := hR3.cut
  have hF3' : ∀ b, (F3 b ∧ b < W3.heap.size) → F b ∨ W2.heap.size ≤ b := fun b hb => hF3 b hb.1
  have hL3 := XhL2.out.keep k3 (fun b hb _ => (Xhout.out b hb).2)
  have hz3 := k3.size
  have hrel3 := Xhrel2.out.keep (k3.mono fun b hb hf hF => hf (XhFt.out b hF))
  have hK13 : Keep (Outside s F) w W3 := XhK12.out.trans (k3.mono fun b _ hb => hb.2)
  have hs3v := ints_stay Xhs.out (m := m) (hK13.mono fun b hb h => Xhmo.out b h) (Nat.le_refl _)
  have hboth : Both B n P KM s2 (fun b => F3 b ∧ b < W3.heap.size) Bf vL3 svs3 W3 := by
    refine ⟨hrel3, by rw [Xhts2.out]; exact hR3', fun b hb => ?_, fun b hb => hb.2⟩
    rcases hF3' b hb with h1 | h1
    · exact XhFt.out b h1
    · cases hT : s2.tag b with
      | none => rfl
      | some T => have := Xhlt2.out b T hT; omega
  have hon : BothOn s F w.heap.size s2 (fun b => F3 b ∧ b < W3.heap.size) := ⟨Xhbd2.out.mono hz1, fun b hb => (hF3' b hb).imp id (fun h1 => by omega)⟩
  have hleft := left_any m w.heap.size _ _ l W3 hL3 hs3v (by omega) hlt
  obtain ⟨g', cap', hge, hL3o⟩ := id hL3
  injection hge with hge1 hge2 hge3
  injection hge1 with hge1
  injection hge1 with hge1
  subst hge1
  subst hge3
  have hloose : LooseIn W3 3 (.slice (some ⟨g, 0, none⟩) l.length l.length) l.length := by
    rcases hL3o.2 with ⟨h1, _⟩ | ⟨g2, c2, cur, h1, _, h3, h4, h5, h6, _⟩
    · cases h1
    · injection h1 with q1 q2 q3
      injection q1 with q1
      injection q1 with q1
      subst q1
      subst q3
      exact .inr ⟨_, _, cur, rfl, h3, Nat.le_refl _, by simp only [maxLen]; omega, by omega⟩
  have hcap2 : l.length + 2 ≤ cap := Xhcpg.out.1
  have hcl1 : (l.length : Int) ≤ cap := by omega
  have hl0 : (0 : Int) ≤ l.length := by omega
  have hgT : s2.tag g = none := by
    cases hT : s2.tag g with
    | none => rfl
    | some T =>
      rcases Xhbd2.out.new g T hT with ⟨T', h1⟩ | h1
      · rw [hg0.1] at h1; cases h1
      · have := Xhcpg.out.2.2.1; omega
  have hgF3 : ¬ (F3 g ∧ g < W3.heap.size) := fun hF => (hF3 g hF.1).elim hg0.2 (fun h1 => by have := Xhcpg.out.2.2.1; omega)
  have hgw : w.heap.size ≤ g := Xhcpg.out.2.2.2
  clear hR3 hR3' hF3 hF3' hL3 k3 hrel3 hs3v hL3o
  have Xhboth := Lib.hid hboth
  have Xhon := Lib.hid hon
  have Xhleft := Lib.hid hleft
  have Xhloose := Lib.hid hloose
  have XhK13 := Lib.hid hK13
  have Xhg0 := Lib.hid hg0
  have XhgT := Lib.hid hgT
  have XhgF3 := Lib.hid hgF3
  clear hboth hon hleft hloose hK13 hg0 hgT hgF3
  obtain ⟨a1, ha1⟩ : ∃ a1, (addD n s.ts l).1 = a1 := ⟨_, rfl⟩
  obtain ⟨a2, ha2⟩ : ∃ a2, (addD n s.ts l).2.1 = a2 := ⟨_, rfl⟩
  obtain ⟨a3, ha3⟩ : ∃ a3, (addD n s.ts l).2.2 = a3 := ⟨_, rfl⟩
  rw [ha1, ha2, ha3]
  clear ha1 ha2 ha3
  go_wp2_with fail
  refine (num_any _ _).mono ?_
  rintro e W3' ⟨rfl, hW3'⟩
  have hW3' := hW3'.symm
  subst hW3'
  go_wp2_with fail
  refine Xhleft.out.mono ?_
  rintro e W4 ⟨rfl, k4⟩
  have hboth4 := Xhboth.out.keep k4 (fun _ _ _ => trivial)
  have hloose4 := Xhloose.out.keep k4 (fun _ _ => trivial)
  have hK14 : Keep (Outside s F) w W4 := XhK13.out.trans (k4.mono fun _ _ _ => trivial)
  clear k4
  have Xhboth4 := Lib.hid hboth4
  have Xhloose4 := Lib.hid hloose4
  have XhK14 := Lib.hid hK14
  clear hboth4 hloose4 hK14
  go_wp2_with fail
  refine (spoil_any Xhloose4.out hlt).mono ?_
  rintro e W5 ⟨rfl, k5⟩
  have hboth5 := Xhboth4.out.keep k5 (fun b hb hlt5 e => by
    simp only [Value.ownBlock, Option.some.injEq] at e
    subst e
    rcases hb with h1 | h1
    · exact h1 XhgT.out
    · exact XhgF3.out h1)
  have hK15' : Keep (fun b => Outside s F b ∧ b < w.heap.size) w W5 := (XhK14.out.mono fun b _ h => h.1).trans (k5.mono fun b _ hb e => by
    simp only [Value.ownBlock, Option.some.injEq] at e
    have := hb.2; omega)
  have hK15 : Keep (Outside s F) w W5 := hK15'.mono fun b hb h => ⟨h, hb⟩
  clear hK15'
  clear k5
  have Xhboth5 := Lib.hid hboth5
  have XhK15 := Lib.hid hK15
  clear hboth5 hK15
  go_wp2_with fail
  go_ret
  exact ⟨rfl, s2, _, vL3, svs3, Xhboth5.out, Xhts2.out, Xhon.out, XhK15.out⟩
end Go.Proofs

/- Layer 4, the law: filled. -/
namespace Go.Proofs
open Go.RowKit Go.Ink
set_option linter.unusedVariables false
set_option linter.unusedSimpArgs false
attribute [local go_sem] Oper.semAt_some

set_option maxRecDepth 100000 in
theorem filled_bad (arity : Int) (hbad : arity < 0 ∨ 16 < arity) (m : Nat) (v : Value) (tuples : List (List Int)) (w : World) (hs : ListsIn m w v tuples) :
    Calls Try.prog 6 #[.int .i64 arity, v] w fun e w' => e = .returned (.tuple #[.pointer none, .pointer none, .bool true]) ∧ w' = w := by
  obtain ⟨a, c, rfl, hlt, hct, het⟩ := id hs
  have Xhs := Lib.hid hs
  have Xhet := Lib.hid het
  clear hs het
  go_enter Try.func6, Try.ntmps6
  go_wp2_with fail
  refine (relNew_bad arity hbad w).mono ?_
  rintro e w1 ⟨rfl, hw1⟩
  have hw1 := hw1.symm
  subst hw1
  go_wp2_with fail
  refine (refNew_bad arity hbad w).mono ?_
  rintro e w1 ⟨rfl, hw1⟩
  have hw1 := hw1.symm
  subst hw1
  go_wp2_with fail
  refine (num_any _ _).mono ?_
  rintro e w1 ⟨rfl, hw1⟩
  have hw1 := hw1.symm
  subst hw1
  go_wp2_with fail
  go_loopw [11] (fun i wr => i = .int .i64 0 ∧ wr = w) (fun i _ => 0)
  case atStart => exact ⟨rfl, rfl⟩
  case round =>
    obtain ⟨rfl, hwr⟩ := hrel
    have hwr := hwr.symm
    subst hwr
    by_cases h0 : tuples.length = 0
    · have h1 : ¬ ((0 : Int) < tuples.length) := by omega
      go_wp2_with fail
      go_ret3
      exact ⟨rfl, rfl⟩
    · have h1 : (0 : Int) < tuples.length := by omega
      clear h0
      go_wp2_with fail
      go_ret3
      exact ⟨rfl, rfl⟩

set_option maxRecDepth 100000 in
set_option maxHeartbeats 1000000 in
theorem filled_any (n : Nat) (hn : n ≤ 16) (m : Nat) (v : Value) (tuples : List (List Int)) (w : World) (hs : ListsIn m w v tuples) (hm : m ≤ w.heap.size) (hok : ∀ t ∈ tuples, okT t) (hlen : tuples.length ≤ 33554432) :
    Calls Try.prog 6 #[.int .i64 (n : Int), v] w fun e w' => ∃ B P K s F Bf vL svs, e = .returned (.tuple #[.pointer (some ⟨B, 0, none⟩), .pointer (some ⟨Bf, 0, none⟩), .bool true]) ∧
      Both B n P K s F Bf vL svs w' ∧ s.ts.length ≤ tuples.length ∧ Keep (fun b => b < w.heap.size) w w' ∧ ∀ b, b < w.heap.size → Outside s F b := by
  obtain ⟨a, c, rfl, hlt, hct, het⟩ := id hs
  have Xhs := Lib.hid hs
  have Xhet := Lib.hid het
  have Xhok := Lib.hid hok
  clear hs het hok
  go_enter Try.func6, Try.ntmps6
  go_wp2_with fail
  refine (relNew_any n hn w).mono ?_
  rintro e W1 ⟨rfl, k1, tag, P, K, hO1, htag⟩
  have z1 := k1.size
  have Xk1 := Lib.hid k1
  have XhO1 := Lib.hid hO1
  have Xhtag := Lib.hid htag
  clear k1 hO1 htag
  go_wp2_with fail
  refine (refNew_any n hn W1).mono ?_
  rintro e W2 ⟨rfl, k2, z2, hR2⟩
  have hboth : Both (w.heap.size + 2) n P K ⟨tag, [], .slice none 0 0, []⟩ (fun b => b = W1.heap.size) W1.heap.size (.slice none 0 0) [] W2 :=
    ⟨⟨XhO1.out.keep k2 (fun _ _ _ _ => trivial), by simp⟩, hR2, fun b hb => by
      cases hT : tag b with
      | none => exact hT
      | some T => have := XhO1.out.lt b T hT; omega, fun b hb => by omega⟩
  have hout : ∀ b, b < w.heap.size → Outside ⟨tag, [], .slice none 0 0, []⟩ (fun b => b = W1.heap.size) b := fun b hb => ⟨by
    cases hT : tag b with
    | none => exact hT
    | some T => have := Xhtag.out b T hT; omega, fun e => by omega⟩
  have hK2 : Keep (fun b => b < w.heap.size) w W2 := (Xk1.out.mono fun _ _ _ => trivial).trans (k2.mono fun _ _ _ => trivial)
  obtain ⟨Bf, hBf⟩ : ∃ Bf, W1.heap.size = Bf := ⟨_, rfl⟩
  obtain ⟨B, hB⟩ : ∃ B, w.heap.size + 2 = B := ⟨_, rfl⟩
  rw [hBf] at hboth hout
  rw [hB] at hboth
  rw [hBf, hB]
  clear hR2 k2 z2
  have Xhboth := Lib.hid hboth
  have Xhout := Lib.hid hout
  have XhK2 := Lib.hid hK2
  have XhBf := Lib.hid hBf
  have XhB := Lib.hid hB
  clear hboth hout hK2 hBf hB
  go_wp2_with fail
  refine (num_any _ _).mono ?_
  rintro e W2' ⟨rfl, hW2'⟩
  have hW2' := hW2'.symm
  subst hW2'
  go_wp2_with fail
  go_loopw [11] (fun i wr => ∃ (k : Nat) (s : RelS) (F : Nat → Prop) (vL : Value) (svs : List Value), k ≤ tuples.length ∧ i = .int .i64 (k : Int) ∧ Both B n P K s F Bf vL svs wr ∧ s.ts.length ≤ k ∧ Keep (fun b => b < w.heap.size) w wr ∧ ∀ b, b < w.heap.size → Outside s F b) (fun i _ => tuples.length - (intOf i).toNat)
  case atStart => exact ⟨0, _, _, _, _, by omega, rfl, Xhboth.out, by simp, XhK2.out, Xhout.out⟩
  case round =>
    obtain ⟨k, s, F, vL, svs, hk, rfl, hb, hts, hK, ho⟩ := hrel
    by_cases hlt' : k < tuples.length
    · obtain ⟨t, ht⟩ : ∃ t, tuples[k]? = some t := ⟨_, List.getElem?_eq_getElem hlt'⟩
      obtain ⟨b, o, rfl, hbm, sv, hcell, hsv⟩ := Xhet.out k t ht
      have hcell := hK.cell hcell (by simp only; omega)
      simp only [Nat.mul_one] at hcell
      have hbw : b < wr.heap.size := World.block_lt_of_cell? _ _ hcell
      have hlt1 : (k : Int) < tuples.length := by omega
      have hk0 : (0 : Int) ≤ k := by omega
      have hszk := hK.size
      have hsvr := ints_stay hsv (m := m) (hK.mono fun b _ h => by omega) (Nat.le_refl _)
      obtain ⟨at', ct', rfl, _, _, _⟩ := id hsvr
      have hadds := adds_any hb (by omega) m _ t hsvr (by omega) (fun b hb' => ho b (by omega)) (Xhok.out t (List.mem_of_getElem? ht))
      have hlen' : (addT n s.ts t).length ≤ k + 1 := by have := addT_len n s.ts t; omega
      clear hsv hsvr ht
      have Xhadds := Lib.hid hadds
      have Xhb := Lib.hid hb
      have XhK := Lib.hid hK
      have Xho := Lib.hid ho
      clear hadds hb hK ho
      go_wp2_with fail
      refine Xhadds.out.mono ?_
      rintro e w2 ⟨rfl, s', F', vL', svs', hb', hts', hon, hK'⟩
      have ho' : ∀ b, b < w.heap.size → Outside s' F' b := fun b hb'' => hon.out (by omega) (Xho.out b hb'')
      have hK2' : Keep (fun b => b < w.heap.size) w w2 := XhK.out.trans (hK'.mono fun b _ h => Xho.out b h)
      have hlen2 : s'.ts.length ≤ k + 1 := by rw [hts']; exact hlen'
      clear hts' hon hK'
      have Xhb' := Lib.hid hb'
      have Xho' := Lib.hid ho'
      have XhK2' := Lib.hid hK2'
      clear hb' ho' hK2'
      go_wp2_with fail
      go_roundw
      case rel => exact ⟨k + 1, s', F', vL', svs', by omega, by go_num, Xhb'.out, hlen2, XhK2'.out, Xho'.out⟩
      case measure => simp [intOf]; omega
    · obtain rfl : k = tuples.length := by omega
      have Xhb := Lib.hid hb
      have XhK := Lib.hid hK
      have Xho := Lib.hid ho
      clear hb hK ho
      go_wp2_with fail
      go_ret3
      exact ⟨B, P, K, s, F, Bf, vL, svs, rfl, Xhb.out, hts, XhK.out, Xho.out⟩
end Go.Proofs
