/- Layer 4, the law RelationPlays: three places beside each other; New and Copy into one of them. -/
import Derived.Test.YtbaemcmagkmjiaaProg
import Derived.Test.YtbaemcmagkmjiaaPlayJToPlayK
import Derived.Test.YtbaemcmagkmjiaaRelEToRelF
import Derived.Test.YtbaemcmagkmjiaaPlayN
namespace Go.Proofs
open Go.RowKit Go.Ink
set_option linter.unusedVariables false
set_option linter.unusedSimpArgs false
attribute [local go_sem] Oper.semAt_some

/-- the program's half of what is to stand in a place -/
structure HalfD where
  B : Nat
  n : Nat
  P : Nat
  K : Nat
  s : RelS
def HalfAt : Option HalfD → World → Prop
  | none, _ => True
  | some x, w => RelInv x.B x.n x.P x.K x.s w
def hV : Option HalfD → Value
  | none => .pointer none
  | some x => .pointer (some ⟨x.B, 0, none⟩)
def hOff : Option HalfD → Nat → Prop
  | none, _ => True
  | some x, b => x.s.tag b = none
theorem HalfAt.keep {h : Option HalfD} {w w' : World} {C : Nat → Prop} (hh : HalfAt h w) (hK : Keep C w w') (hC : ∀ b, b < w.heap.size → ¬ hOff h b → C b) : HalfAt h w' := by
  cases h with
  | none => trivial
  | some x => exact RelInv.keep hh ⟨hK.os, hK.tape, hK.output, hK.size, fun b hb hn => hK.block b hb (hC b hb hn)⟩
theorem HalfAt.lt {h : Option HalfD} {w : World} (hh : HalfAt h w) {b : Nat} (hb : w.heap.size ≤ b) : hOff h b := by
  cases h with
  | none => trivial
  | some x =>
    show x.s.tag b = none
    cases hT : x.s.tag b with
    | none => rfl
    | some T => have := (RelInv.own hh).lt b T hT; omega

/-- the numbers of New's errors -/
def goodA (a : Int) : Prop := 0 ≤ a ∧ a ≤ 16
def errA (a : Int) : Int := if 0 ≤ a ∧ a ≤ 16 then 0 else 2
/-- which half New makes -/
def HalfNew (a : Int) (h : Option HalfD) : Prop := match h with
  | none => ¬ goodA a
  | some x => (x.n : Int) = a ∧ x.s.ts = []
theorem newT_any (a : Int) (w : World) : Calls Try.prog 16 #[.int .i64 a] w fun e w' => ∃ h, e = .returned (.tuple #[hV h, .int .i64 (errA a)]) ∧ Keep (fun _ => True) w w' ∧ HalfAt h w' ∧ HalfNew a h ∧ ∀ b, ¬ hOff h b → w.heap.size ≤ b := by
  by_cases ha : 0 ≤ a ∧ a ≤ 16
  · obtain ⟨n, rfl⟩ := Int.eq_ofNat_of_zero_le ha.1
    refine (relNew_any n (by omega) w).mono ?_
    rintro e w' ⟨rfl, hK, tag, P, K, hO, hlt⟩
    refine ⟨some ⟨w.heap.size + 2, n, P, K, ⟨tag, [], .slice none 0 0, []⟩⟩, ?_, hK, ⟨hO, by simp⟩, ⟨rfl, rfl⟩, fun b hb => ?_⟩
    · unfold errA; rw [if_pos ha]; rfl
    · cases hT : tag b with
      | none => exact absurd hT hb
      | some T => exact hlt b T hT
  · refine (relNew_bad a (by omega) w).mono ?_
    rintro e w' ⟨rfl, hW⟩
    refine ⟨none, ?_, by rw [hW]; exact Keep.refl _ _, trivial, ha, fun b hb => absurd trivial hb⟩
    unfold errA; rw [if_neg ha]; rfl

/-- the place d has come of the half h: what it takes up -/
structure Comes (h : Option HalfD) (d : Option SlotD) (from' : Option SlotD) (n : Nat) : Prop where
  t : tV d = hV h
  use : ∀ b, ¬ offS d b → ¬ hOff h b ∨ (¬ offS from' b ∧ outS from' b) ∨ n ≤ b
  out : ∀ b, b < n → hOff h b → outS d b
theorem newR_any (a : Int) {h : Option HalfD} (hn : HalfNew a h) (w : World) (hh : HalfAt h w) : Calls Try.prog 24 #[.int .i64 a] w fun e w' => ∃ d, e = .returned (.tuple #[rV d, .int .i64 (errA a)]) ∧ Keep (fun _ => True) w w' ∧ SlotAt d w' ∧ Comes h d none w.heap.size ∧ tsS d = [] := by
  cases h with
  | none =>
    have ha : ¬ (0 ≤ a ∧ a ≤ 16) := hn
    refine (refNew_bad a (by omega) w).mono ?_
    rintro e w' ⟨rfl, hW⟩
    refine ⟨none, ?_, by rw [hW]; exact Keep.refl _ _, trivial, ⟨rfl, fun b hb => absurd trivial hb, fun b _ _ => trivial⟩, rfl⟩
    unfold errA; rw [if_neg ha]; rfl
  | some x =>
    obtain ⟨hxa, hts⟩ := hn
    have h16 := (RelInv.own hh).n16
    subst hxa
    refine (refNew_any x.n h16 w).mono ?_
    rintro e w' ⟨rfl, hK, hz, hR⟩
    have hlt : ∀ b, w.heap.size ≤ b → x.s.tag b = none := fun b hb => HalfAt.lt (h := some x) hh hb
    refine ⟨some ⟨x.B, x.n, x.P, x.K, x.s, fun b => b = w.heap.size, w.heap.size, .slice none 0 0, []⟩, ?_, hK, ⟨RelInv.keep hh (hK.mono fun _ _ _ => trivial), ?_, fun b hb => hlt b (by omega), fun b hb => by omega⟩, ⟨rfl, fun b hb => ?_, fun b hb ho => ⟨ho, by show b ≠ w.heap.size; omega, by simp [Value.ownBlock]⟩⟩, hts⟩
    · unfold errA; rw [if_pos ⟨by omega, by omega⟩]; rfl
    · rw [hts]; exact hR
    · by_cases h1 : x.s.tag b = none
      · right; right
        by_cases h2 : b = w.heap.size
        · omega
        · exact absurd ⟨h1, h2⟩ hb
      · exact .inl h1

set_option maxRecDepth 100000 in
theorem relCopy_nil (w : World) : Calls Try.prog 26 #[.pointer none] w fun e w' => e = .returned (.pointer none) ∧ w' = w := by
  refine calls_of Try.func26 rfl ?_
  simp only [Try.ntmps26, List.size_toArray, List.length_cons, List.length_nil, Nat.reduceAdd, Nat.reduceSub, Array.replicate_succ, Array.replicate_zero, List.push_toArray, List.append_toArray, List.nil_append, List.cons_append]
  gi_wp2
  refine ⟨trivial, rfl, (callsIn_wide.2 (made_nil w)).mono ?_⟩
  rintro e w1 ⟨rfl, hw1⟩
  have hw1 := hw1.symm
  subst hw1
  gi_wp2
  refine leaves_nil (v := .pointer none) (by simp [results, Try.results26, go_sem]) ⟨rfl, rfl⟩

/-- which half Copy makes -/
def HalfOf (d : Option SlotD) (h : Option HalfD) : Prop := match d, h with
  | none, none => True
  | some x, some y => y.n = x.n ∧ y.s.ts = x.s.ts
  | _, _ => False
theorem copyT_any {d : Option SlotD} {w : World} (h : SlotAt d w) : Calls Try.prog 26 #[tV d] w fun e w' => ∃ hh d', e = .returned (hV hh) ∧ SlotGo d w d' w' ∧ tsS d' = tsS d ∧ HalfAt hh w' ∧ HalfOf d' hh ∧ ∀ b, ¬ hOff hh b → w.heap.size ≤ b ∧ offS d' b := by
  cases d with
  | none =>
    refine (relCopy_nil w).mono ?_
    rintro e w' ⟨rfl, hW⟩
    exact ⟨none, none, rfl, by rw [hW]; exact SlotGo.refl h, rfl, trivial, trivial, fun b hb => absurd trivial hb⟩
  | some x =>
    refine (relCopy_any (Both.rel h)).mono ?_
    rintro e w' ⟨B', P', K', s', sA, rfl, hi, hts, htag, hA, hsm⟩
    have hg := slot_same h hA hsm
    refine ⟨some ⟨B', x.n, P', K', s'⟩, _, rfl, hg.1, hg.2, hi, ⟨rfl, ?_⟩, fun b hb => ⟨(htag b hb).1, (htag b hb).2, fun hF => ?_⟩⟩
    · show s'.ts = sA.ts
      rw [hts, hsm.same]
    · have h1 := (htag b hb).1
      have h2 := Both.lt h b hF
      omega
theorem copyR_any {d : Option SlotD} {hh : Option HalfD} {w : World} (h : SlotAt d w) (hd : HalfAt hh w) (hof : HalfOf d hh) (hap : ∀ b, ¬ hOff hh b → offS d b) : Calls Try.prog 27 #[rV d] w fun e w' => ∃ d', e = .returned (rV d') ∧ Keep (fun _ => True) w w' ∧ SlotAt d' w' ∧ Comes hh d' d w.heap.size ∧ tsS d' = tsS d := by
  have hf := h.few
  cases d with
  | none => cases hh with
    | none =>
      refine (refCopy_nil w).mono ?_
      rintro e w' ⟨rfl, hW⟩
      exact ⟨none, rfl, by rw [hW]; exact Keep.refl _ _, trivial, ⟨rfl, fun b hb => absurd trivial hb, fun b _ _ => trivial⟩, rfl⟩
    | some y => exact hof.elim
  | some x => cases hh with
    | none => exact hof.elim
    | some y =>
      obtain ⟨hn, hts⟩ := hof
      have hb : Both x.B x.n x.P x.K x.s x.F x.Bf x.vL x.svs w := h
      refine (refCopy_any hb.ref (by simp only [tsS] at hf; omega)).mono ?_
      rintro e w' ⟨B', vL', rfl, hK, hB', hvL', hR⟩
      have hylt : ∀ b, w.heap.size ≤ b → y.s.tag b = none := fun b hb => HalfAt.lt (h := some y) hd hb
      refine ⟨some ⟨y.B, y.n, y.P, y.K, y.s, fun b => (x.F b ∧ b ≠ x.Bf ∧ x.vL.ownBlock ≠ some b) ∨ (w.heap.size ≤ b ∧ b < w'.heap.size), B', vL', x.svs⟩, rfl, hK, ⟨RelInv.keep hd (hK.mono fun _ _ _ => trivial), ?_, fun b hF => ?_, fun b hF => ?_⟩, ⟨rfl, fun b hb' => ?_, fun b hb' ho => ⟨ho, by show b ≠ B'; omega, fun e => by have := hvL' b e; omega⟩⟩, ?_⟩
      · rw [hn, hts]; exact hR
      · rcases hF with hF | hF
        · exact Classical.byContradiction fun hne => (hap b hne).2 hF.1
        · exact hylt b hF.1
      · rcases hF with hF | hF
        · exact Nat.lt_of_lt_of_le (hb.lt b hF.1) hK.size
        · exact hF.2
      · by_cases h1 : y.s.tag b = none
        · right
          by_cases h2 : (x.F b ∧ b ≠ x.Bf ∧ x.vL.ownBlock ≠ some b) ∨ (w.heap.size ≤ b ∧ b < w'.heap.size)
          · rcases h2 with h2 | h2
            · exact .inl ⟨fun ho => ho.2 h2.1, hb.apart b h2.1, h2.2.1, h2.2.2⟩
            · exact .inr h2.1
          · exact absurd ⟨h1, h2⟩ hb'
        · exact .inl h1
      · show y.s.ts = x.s.ts
        exact hts

/-- three places beside each other -/
structure PlayS (w : World) (bt br : Nat) (S : Nat → Option SlotD) (X : World) : Prop where
  here : ∀ i, i < 3 → SlotAt (S i) X
  apart : ∀ i j, i < 3 → j < 3 → i ≠ j → ∀ b, ¬ offS (S i) b → outS (S j) b
  low : ∀ i, i < 3 → ∀ b, b < w.heap.size → offS (S i) b
  tb : ∀ i, i < 3 → offS (S i) bt ∧ offS (S i) br
  keep : Keep (fun b => b < w.heap.size) w X
  lt : (w.heap.size ≤ bt ∧ bt < X.heap.size) ∧ (w.heap.size ≤ br ∧ br < X.heap.size) ∧ bt ≠ br
def upd (S : Nat → Option SlotD) (j : Nat) (d : Option SlotD) : Nat → Option SlotD := fun i => if i = j then d else S i
theorem upd_same (S : Nat → Option SlotD) (j : Nat) (d : Option SlotD) : upd S j d j = d := if_pos rfl
theorem upd_other (S : Nat → Option SlotD) {i j : Nat} (d : Option SlotD) (h : i ≠ j) : upd S j d i = S i := if_neg h
theorem PlayS.stay {w X Y : World} {bt br : Nat} {S : Nat → Option SlotD} {C : Nat → Prop} (h : PlayS w bt br S X) (hK : Keep C X Y) (hC : ∀ b, b < X.heap.size → b = bt ∨ b = br ∨ C b) : PlayS w bt br S Y :=
  ⟨fun i hi => (h.here i hi).keep hK (fun b hb hn => by
      rcases hC b hb with rfl | rfl | h1
      · exact absurd (h.tb i hi).1 hn
      · exact absurd (h.tb i hi).2 hn
      · exact h1), h.apart, h.low, h.tb, h.keep.trans (hK.mono fun b hb' hb => by
      have hl := h.lt
      rcases hC b (by have := h.keep.size; omega) with h1 | h1 | h1
      · omega
      · omega
      · exact h1), by have := h.lt; have := hK.size; omega⟩
theorem PlayS.step {w X Y : World} {bt br : Nat} {S : Nat → Option SlotD} {j : Nat} {d : Option SlotD} (h : PlayS w bt br S X) (hj : j < 3) (g : SlotGo (S j) X d Y) : PlayS w bt br (upd S j d) Y := by
  have hsz := g.keep.size
  have hno : ∀ i, i < 3 → ∀ b, ¬ offS (S i) b → b < X.heap.size := fun i hi b hb => Nat.lt_of_not_le fun hle => hb ((h.here i hi).fresh hle)
  refine ⟨fun i hi => ?_, fun i k hi hk hik b hb => ?_, fun i hi b hb => ?_, fun i hi => ?_, h.keep.trans (g.keep.mono fun b hb' hb => ⟨(h.here j hj).off_out (h.low j hj b hb), by have := h.keep.size; omega⟩), by have := h.lt; omega⟩
  · by_cases hij : i = j
    · subst hij; rw [upd_same]; exact g.here
    · rw [upd_other _ _ hij]
      exact (h.here i hi).keep g.keep (fun b hb hn => ⟨h.apart i j hi hj hij b hn, hb⟩)
  · by_cases hij : i = j
    · subst hij
      rw [upd_same] at hb
      rw [upd_other _ _ (fun e => hik e.symm)]
      by_cases h1 : b < X.heap.size
      · by_cases h2 : offS (S i) b
        · exact absurd (g.off h1 h2) hb
        · exact h.apart i k hi hk hik b h2
      · exact (h.here k hk).off_out ((h.here k hk).fresh (by omega))
    · rw [upd_other _ _ hij] at hb
      by_cases hkj : k = j
      · subst hkj
        rw [upd_same]
        exact g.on.out (hno i hi b hb) (h.apart i k hi hk hik b hb)
      · rw [upd_other _ _ hkj]
        exact h.apart i k hi hk hik b hb
  · by_cases hij : i = j
    · subst hij; rw [upd_same]; exact g.off (by have := h.keep.size; omega) (h.low i hi b hb)
    · rw [upd_other _ _ hij]; exact h.low i hi b hb
  · by_cases hij : i = j
    · subst hij; rw [upd_same]; exact ⟨g.off h.lt.1.2 (h.tb i hi).1, g.off h.lt.2.1.2 (h.tb i hi).2⟩
    · rw [upd_other _ _ hij]; exact h.tb i hi
/-- something new is put into a place -/
theorem PlayS.put {w X Y : World} {bt br : Nat} {S : Nat → Option SlotD} {who to : Nat} {d : Option SlotD} {hh : Option HalfD} (h : PlayS w bt br S X) (hto : to < 3) (hw : who < 3) (hK : Keep (fun _ => True) X Y) (hd : SlotAt d Y) {from' : Option SlotD} (hf : from' = none ∨ from' = S who)
    (hc : Comes hh d from' X.heap.size) (hh1 : ∀ b, ¬ hOff hh b → w.heap.size ≤ b ∧ b ≠ bt ∧ b ≠ br ∧ ∀ i, i < 3 → offS (S i) b) : PlayS w bt br (upd S to d) Y := by
  have h1 := h.stay hK (fun b _ => .inr (.inr trivial))
  have hno : ∀ i, i < 3 → ∀ b, ¬ offS (S i) b → b < X.heap.size := fun i hi b hb => Nat.lt_of_not_le fun hle => hb ((h.here i hi).fresh hle)
  have hfrom : ∀ b, ¬ offS from' b → outS from' b → from' = S who ∧ ¬ offS (S who) b ∧ outS (S who) b := fun b h2 h3 => by
    rcases hf with rfl | rfl
    · exact absurd trivial h2
    · exact ⟨rfl, h2, h3⟩
  refine ⟨fun i hi => ?_, fun i k hi hk hik b hb => ?_, fun i hi b hb => ?_, fun i hi => ?_, h1.keep, h1.lt⟩
  · by_cases hij : i = to
    · subst hij; rw [upd_same]; exact hd
    · rw [upd_other _ _ hij]; exact h1.here i hi
  · by_cases hij : i = to
    · subst hij
      rw [upd_same] at hb
      rw [upd_other _ _ (fun e => hik e.symm)]
      rcases hc.use b hb with h2 | h2 | h2
      · exact (h.here k hk).off_out ((hh1 b h2).2.2.2 k hk)
      · obtain ⟨_, h3, h4⟩ := hfrom b h2.1 h2.2
        by_cases hkw : k = who
        · subst hkw; exact h4
        · exact h.apart who k hw hk (fun e => hkw e.symm) b h3
      · exact (h.here k hk).off_out ((h.here k hk).fresh h2)
    · rw [upd_other _ _ hij] at hb
      by_cases hkj : k = to
      · subst hkj
        rw [upd_same]
        refine hc.out b (hno i hi b hb) (Classical.byContradiction fun hn => hb ((hh1 b hn).2.2.2 i hi))
      · rw [upd_other _ _ hkj]
        exact h.apart i k hi hk hik b hb
  · by_cases hij : i = to
    · subst hij
      rw [upd_same]
      refine Classical.byContradiction fun hn => ?_
      rcases hc.use b hn with h2 | h2 | h2
      · have := (hh1 b h2).1; omega
      · exact (hfrom b h2.1 h2.2).2.1 (h.low who hw b hb)
      · have := h.keep.size; omega
    · rw [upd_other _ _ hij]; exact h.low i hi b hb
  · by_cases hij : i = to
    · subst hij
      rw [upd_same]
      have hx : ∀ b, (b = bt ∨ b = br) → b < X.heap.size → offS (S who) b → offS d b := fun b hbb hlt hoff => Classical.byContradiction fun hn => by
        rcases hc.use b hn with h2 | h2 | h2
        · have h3 := hh1 b h2
          rcases hbb with e | e
          · exact h3.2.1 e
          · exact h3.2.2.1 e
        · exact (hfrom b h2.1 h2.2).2.1 hoff
        · omega
      exact ⟨hx bt (.inl rfl) h.lt.1.2 (h.tb who hw).1, hx br (.inr rfl) h.lt.2.1.2 (h.tb who hw).2⟩
    · rw [upd_other _ _ hij]; exact h.tb i hi
end Go.Proofs

/- Layer 4, the law RelationPlays: what a step is in memory; place; the three places and the two boxes that name them. -/
namespace Go.Proofs
open Go.RowKit Go.Ink
set_option linter.unusedVariables false
set_option linter.unusedSimpArgs false
attribute [local go_sem] Oper.semAt_some

/-- a step -/
structure StepD where
  kd : Int
  wh : Int
  fr : Int
  to : Int
  lv : Int
  tu : List Int
  cols : List Int
  key : List Int
instance : Inhabited StepD := ⟨⟨0, 0, 0, 0, 0, [], [], []⟩⟩
def StepIn (n : Nat) (w : World) (s : StepD) (vt vc vk : Value) : Prop := IntsIn n w vt s.tu ∧ IntsIn n w vc s.cols ∧ IntsIn n w vk s.key ∧ okT s.tu ∧ okT s.key
def StepE (n : Nat) (w : World) (b o : Nat) (s : StepD) : Prop := ∃ vt vc vk, (∀ j v, [Value.int .i64 s.kd, .int .i64 s.wh, .int .i64 s.fr, .int .i64 s.to, .int .i64 s.lv, vt, vc, vk][j]? = some v → w.cell? ⟨b, o + j, none⟩ = some v) ∧ StepIn n w s vt vc vk
abbrev StepsIn (n : Nat) (w : World) (v : Value) (ss : List StepD) : Prop := SliceIn n w 8 (StepE n) v ss
theorem StepIn.stay {n : Nat} {w w' : World} {s : StepD} {vt vc vk : Value} (h : StepIn n w s vt vc vk) {m : Nat} (hK : Keep (fun k => k < m) w w') (hm : n ≤ m) : StepIn n w' s vt vc vk :=
  ⟨ints_stay h.1 hK hm, ints_stay h.2.1 hK hm, ints_stay h.2.2.1 hK hm, h.2.2.2⟩

theorem rem_three (n : Int) : -3 < n.tmod 3 ∧ n.tmod 3 < 3 := by
  refine ⟨?_, ?_⟩
  · have := Int.lt_tmod_of_pos n (show (0 : Int) < 3 by omega); omega
  · exact Int.tmod_lt_of_pos n (by omega)

set_option maxRecDepth 100000 in
theorem place_any (n : Int) (w : World) : Calls Try.prog 25 #[.int .i64 n] w fun e w' => ∃ k : Nat, k < 3 ∧ e = .returned (.int .i64 (k : Int)) ∧ w' = w := by
  have h3 := rem_three n
  obtain ⟨r, hr⟩ : ∃ r, n.tmod 3 = r := ⟨_, rfl⟩
  rw [hr] at h3
  by_cases h0 : r < 0
  · go_enter Try.func25, Try.ntmps25
    go_wp2_with fail
    go_ret
    exact ⟨(r + 3).toNat, by omega, by rw [Int.toNat_of_nonneg (by omega)]; rfl, rfl⟩
  · go_enter Try.func25, Try.ntmps25
    go_wp2_with fail
    go_ret
    exact ⟨r.toNat, by omega, by rw [Int.toNat_of_nonneg (by omega)]; rfl, rfl⟩

/-- three cells of a box -/
def Box3 (X : World) (b : Nat) (v : Nat → Value) : Prop := ∃ t, X.heap[b]? = some (.cells #[v 0, v 1, v 2] t (0, 0))
theorem Box3.cell {X : World} {b : Nat} {v : Nat → Value} (h : Box3 X b v) {k : Nat} (hk : k < 3) : X.cell? ⟨b, k, none⟩ = some (v k) := by
  obtain ⟨t, h⟩ := h
  have h1 := cells_of_block h k (v k) (by match k, hk with
    | 0, _ => rfl
    | 1, _ => rfl
    | 2, _ => rfl)
  simpa using h1
theorem Box3.free {X : World} {b : Nat} {v : Nat → Value} (h : Box3 X b v) (k : Nat) : X.frozen? ⟨b, k, none⟩ = false := by
  obtain ⟨t, h⟩ := h
  exact box_free h k
theorem Box3.keep {X Y : World} {b : Nat} {v : Nat → Value} {C : Nat → Prop} (h : Box3 X b v) (hK : Keep C X Y) (hC : C b) : Box3 Y b v := by
  obtain ⟨t, h⟩ := h
  exact ⟨t, hK.heap h hC⟩
theorem Box3.lt {X : World} {b : Nat} {v : Nat → Value} (h : Box3 X b v) : b < X.heap.size := by
  obtain ⟨t, h⟩ := h
  exact heap_lt h
theorem Box3.set {X : World} {b : Nat} {v : Nat → Value} (h : Box3 X b v) {k : Nat} (hk : k < 3) (u : Value) : Box3 (X.setCell ⟨b, k, none⟩ u) b (fun i => if i = k then u else v i) := by
  obtain ⟨t, h⟩ := h
  refine ⟨t, ?_⟩
  rw [set_at k u h]
  match k, hk with
  | 0, _ => rfl
  | 1, _ => rfl
  | 2, _ => rfl
theorem Box3.congr {X : World} {b : Nat} {v v' : Nat → Value} (h : Box3 X b v) (he : ∀ i, i < 3 → v i = v' i) : Box3 X b v' := by
  obtain ⟨t, h⟩ := h
  exact ⟨t, by rw [← he 0 (by omega), ← he 1 (by omega), ← he 2 (by omega)]; exact h⟩

/-- what stands between the steps of the script -/
structure PlaySt (w : World) (bt br : Nat) (S : Nat → Option SlotD) (X : World) : Prop where
  pl : PlayS w bt br S X
  ct : Box3 X bt (fun i => tV (S i))
  cr : Box3 X br (fun i => rV (S i))
/-- and between the two halves of a store -/
structure MidSt (w : World) (bt br to : Nat) (S : Nat → Option SlotD) (hh : Option HalfD) (X : World) : Prop where
  pl : PlayS w bt br S X
  ct : Box3 X bt (fun i => if i = to then hV hh else tV (S i))
  cr : Box3 X br (fun i => rV (S i))
  half : HalfAt hh X
  off : ∀ b, ¬ hOff hh b → w.heap.size ≤ b ∧ b ≠ bt ∧ b ≠ br ∧ ∀ i, i < 3 → offS (S i) b
theorem PlaySt.stay {w X Y : World} {bt br : Nat} {S : Nat → Option SlotD} {C : Nat → Prop} (h : PlaySt w bt br S X) (hK : Keep C X Y) (hC : ∀ b, b < X.heap.size → C b) : PlaySt w bt br S Y :=
  ⟨h.pl.stay hK (fun b hb => .inr (.inr (hC b hb))), h.ct.keep hK (hC _ h.ct.lt), h.cr.keep hK (hC _ h.cr.lt)⟩
theorem PlaySt.new {w X : World} {bt br : Nat} {S : Nat → Option SlotD} (h : PlaySt w bt br S X) {b : Nat} (hb : X.heap.size ≤ b) : w.heap.size ≤ b ∧ b ≠ bt ∧ b ≠ br ∧ ∀ i, i < 3 → offS (S i) b :=
  ⟨by have := h.pl.keep.size; omega, by have := h.ct.lt; omega, by have := h.cr.lt; omega, fun i hi => (h.pl.here i hi).fresh hb⟩
theorem PlaySt.step {w X Y : World} {bt br : Nat} {S : Nat → Option SlotD} {j : Nat} {d : Option SlotD} (h : PlaySt w bt br S X) (hj : j < 3) (g : SlotGo (S j) X d Y) : PlaySt w bt br (upd S j d) Y := by
  have htb := h.pl.tb j hj
  have ha := h.pl.here j hj
  refine ⟨h.pl.step hj g, (h.ct.keep g.keep ⟨ha.off_out htb.1, h.ct.lt⟩).congr (fun i _ => ?_), (h.cr.keep g.keep ⟨ha.off_out htb.2, h.cr.lt⟩).congr (fun i _ => ?_)⟩
  · by_cases hij : i = j
    · subst hij; rw [upd_same]; exact g.on.t.symm
    · rw [upd_other _ _ hij]
  · by_cases hij : i = j
    · subst hij; rw [upd_same]; exact g.on.r.symm
    · rw [upd_other _ _ hij]
theorem PlaySt.mid {w X : World} {bt br to : Nat} {S : Nat → Option SlotD} {hh : Option HalfD} (h : PlaySt w bt br S X) (hto : to < 3) (half : HalfAt hh X) (off : ∀ b, ¬ hOff hh b → w.heap.size ≤ b ∧ b ≠ bt ∧ b ≠ br ∧ ∀ i, i < 3 → offS (S i) b) :
    MidSt w bt br to S hh (X.setCell ⟨bt, to, none⟩ (hV hh)) := by
  have hK : Keep (fun b => b ≠ bt) X (X.setCell ⟨bt, to, none⟩ (hV hh)) := Keep.setCell _ _ _ (by simp)
  exact ⟨h.pl.stay hK (fun b _ => by by_cases hb : b = bt; exact .inl hb; exact .inr (.inr hb)), h.ct.set hto _, h.cr.keep hK (fun e => h.pl.lt.2.2 e.symm), half.keep hK (fun b _ hb => (off b hb).2.1), off⟩
theorem MidSt.stay {w X Y : World} {bt br to : Nat} {S : Nat → Option SlotD} {hh : Option HalfD} {C : Nat → Prop} (h : MidSt w bt br to S hh X) (hK : Keep C X Y) (hC : ∀ b, b < X.heap.size → C b) : MidSt w bt br to S hh Y :=
  ⟨h.pl.stay hK (fun b hb => .inr (.inr (hC b hb))), h.ct.keep hK (hC _ h.ct.lt), h.cr.keep hK (hC _ h.cr.lt), h.half.keep hK (fun b hb _ => hC b hb), h.off⟩
theorem MidSt.put {w X Y : World} {bt br who to : Nat} {S : Nat → Option SlotD} {hh : Option HalfD} {d from' : Option SlotD} (h : MidSt w bt br to S hh X) (hto : to < 3) (hw : who < 3) (hK : Keep (fun _ => True) X Y) (hd : SlotAt d Y) (hf : from' = none ∨ from' = S who) (hc : Comes hh d from' X.heap.size) :
    PlaySt w bt br (upd S to d) (Y.setCell ⟨br, to, none⟩ (rV d)) := by
  have h1 := h.pl.put hto hw hK hd hf hc h.off
  have hK2 : Keep (fun b => b ≠ br) Y (Y.setCell ⟨br, to, none⟩ (rV d)) := Keep.setCell _ _ _ (by simp)
  refine ⟨h1.stay hK2 (fun b _ => by by_cases hb : b = br; exact .inr (.inl hb); exact .inr (.inr hb)), ((h.ct.keep hK trivial).keep hK2 h.pl.lt.2.2).congr (fun i _ => ?_), ((h.cr.keep hK trivial).set hto _).congr (fun i _ => ?_)⟩
  · show (if i = to then hV hh else tV (S i)) = _
    by_cases hi : i = to
    · subst hi; rw [upd_same, if_pos rfl]; exact hc.t.symm
    · rw [upd_other _ _ hi, if_neg hi]
  · show (if i = to then rV d else rV (S i)) = _
    by_cases hi : i = to
    · subst hi; rw [upd_same, if_pos rfl]
    · rw [upd_other _ _ hi, if_neg hi]
/-- at the start: two new boxes, nothing in the places -/
theorem play_start (w X : World) (bt br : Nat) (hK : Keep (fun _ => True) w X) (hbt : w.heap.size ≤ bt) (hbr : w.heap.size ≤ br) (hne : bt ≠ br) (ht : Box3 X bt (fun _ => .pointer none)) (hr : Box3 X br (fun _ => .pointer none)) : PlaySt w bt br (fun _ => none) X :=
  ⟨⟨fun _ _ => trivial, fun _ _ _ _ _ _ _ => trivial, fun _ _ _ _ => trivial, fun _ _ => ⟨trivial, trivial⟩, hK.mono fun _ _ _ => trivial, ⟨hbt, ht.lt⟩, ⟨hbr, hr.lt⟩, hne⟩, ht, hr⟩
theorem upd_few {S : Nat → Option SlotD} {j k : Nat} {d : Option SlotD} (h : ∀ i, i < 3 → (tsS (S i)).length ≤ k) (hd : (tsS d).length ≤ k) : ∀ i, i < 3 → (tsS (upd S j d i)).length ≤ k := fun i hi => by
  by_cases hij : i = j
  · subst hij; rw [upd_same]; exact hd
  · rw [upd_other _ _ hij]; exact h i hi
end Go.Proofs
