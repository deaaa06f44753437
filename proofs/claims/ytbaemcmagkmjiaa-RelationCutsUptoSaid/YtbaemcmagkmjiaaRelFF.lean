/- Layer 4, the law RelationCuts: the walk. -/
import Derived.Test.YtbaemcmagkmjiaaProg
import Derived.Test.YtbaemcmagkmjiaaRelEE
import Derived.Test.YtbaemcmagkmjiaaRelFL
import Derived.Test.YtbaemcmagkmjiaaRelX
import Derived.Test.YtbaemcmagkmjiaaRelZ
import Derived.Test.YtbaemcmagkmjiaaRelAA
namespace Go.Proofs
open Go.RowKit Go.Ink
set_option linter.unusedVariables false
set_option linter.unusedSimpArgs false
attribute [local go_sem] Oper.semAt_some

set_option maxRecDepth 100000 in
theorem cuts_bad (arity : Int) (hbad : arity < 0 ∨ 16 < arity) (m : Nat) (v1 vc : Value) (tuples : List (List Int)) (cols : List Int) (cut : Int) (w : World) (h1 : ListsIn m w v1 tuples) (hc : IntsIn m w vc cols) (hm : m ≤ w.heap.size) :
    Calls Try.prog 4 #[.int .i64 arity, v1, vc, .int .i64 cut] w fun e w' => e = .returned (.bool true) ∧ Keep (fun b => b < w.heap.size) w w' := by
  obtain ⟨a1, c1, rfl, hl1, hc1, he1⟩ := id h1
  obtain ⟨ac, cc, rfl, hlc, hcc, hec⟩ := id hc
  clear he1 hec
  have Xh1 := Lib.hid h1
  have Xhc := Lib.hid hc
  clear h1 hc
  go_enter Try.func4, Try.ntmps4
  go_wp2_with fail
  refine (known4_any w).mono ?_
  rintro e W0 ⟨rfl, k0⟩
  have Xk0 := Lib.hid k0
  clear k0
  go_wp2_with fail
  refine (relNew_bad arity hbad W0).mono ?_
  rintro e w1 ⟨rfl, hw1⟩
  have hw1 := hw1.symm
  subst hw1
  go_wp2_with fail
  refine (num_any _ _).mono ?_
  rintro e w1 ⟨rfl, hw1⟩
  have hw1 := hw1.symm
  subst hw1
  rcases hbad with h0 | h0
  · go_wp2_with fail
    go_ret
    exact ⟨rfl, Xk0.out.mono fun _ _ _ => trivial⟩
  · have h2 : ¬ arity < 0 := by omega
    go_wp2_with fail
    go_ret
    exact ⟨rfl, Xk0.out.mono fun _ _ _ => trivial⟩

/-- what stands between the steps of RelationCuts -/
structure CutSt (w : World) (B n P K : Nat) (s : RelS) (X : World) : Prop where
  rel : RelInv B n P K s X
  keep : Keep (fun b => b < w.heap.size) w X
  out : ∀ b, b < w.heap.size → s.tag b = none
theorem CutSt.same {w X Y : World} {B n P K : Nat} {s s' : RelS} (h : CutSt w B n P K s X) (hi : RelInv B n P K s' Y) (hs : RelSame s X s' Y) : CutSt w B n P K s' Y :=
  ⟨hi, h.keep.trans (hs.keep.mono fun b _ hb => ⟨h.out b hb, by have := h.keep.size; omega⟩), fun b hb => hs.free (by have := h.keep.size; omega) (h.out b hb)⟩
theorem CutSt.stay {w X Y : World} {B n P K : Nat} {s : RelS} {C : Nat → Prop} (h : CutSt w B n P K s X) (hK : Keep C X Y) (hC : ∀ b, b < X.heap.size → C b) : CutSt w B n P K s Y :=
  ⟨⟨h.rel.own.keep hK (fun b T hb hl => hC b hl), h.rel.few⟩, h.keep.trans (hK.mono fun b hb _ => hC b (by have := h.keep.size; omega)), h.out⟩

/-- a row of ints outside the relation's memory -/
def Held (tag : Tags) (X : World) (v : Value) (l : List Int) : Prop := IntsIn X.heap.size X v l ∧ ∀ a n c, v = .slice (some a) n c → tag a.block = none ∧ a.block < X.heap.size
theorem Held.same {s s' : RelS} {X Y : World} {v : Value} {l : List Int} (h : Held s.tag X v l) (hs : RelSame s X s' Y) : Held s'.tag Y v l :=
  ⟨ints_wider (ints_free h.1 (fun a n c e => (h.2 a n c e).1) hs.keep (fun b h1 h2 => ⟨h1, h2⟩)) hs.keep.size, fun a n c e => ⟨hs.free (h.2 a n c e).2 (h.2 a n c e).1, Nat.lt_of_lt_of_le (h.2 a n c e).2 hs.keep.size⟩⟩
theorem Held.stay {tag : Tags} {C : Nat → Prop} {X Y : World} {v : Value} {l : List Int} (h : Held tag X v l) (hK : Keep C X Y) (hC : ∀ b, b < X.heap.size → C b) : Held tag Y v l :=
  ⟨ints_wider (ints_stay h.1 (m := X.heap.size) (hK.mono fun b _ hb => hC b hb) (Nat.le_refl _)) hK.size, fun a n c e => ⟨(h.2 a n c e).1, Nat.lt_of_lt_of_le (h.2 a n c e).2 hK.size⟩⟩
theorem CutSt.held {w X : World} {B n P K m : Nat} {s : RelS} {v : Value} {l : List Int} (h : CutSt w B n P K s X) (hv : IntsIn m w v l) (hm : m ≤ w.heap.size) (hf : ∀ a n c, v = .slice (some a) n c → a.block < w.heap.size) : Held s.tag X v l :=
  ⟨ints_wider (ints_stay hv (m := m) (h.keep.mono fun b _ hb => by omega) (Nat.le_refl _)) (by have := h.keep.size; omega), fun a n c e => ⟨h.out _ (hf a n c e), by have := hf a n c e; have := h.keep.size; omega⟩⟩
theorem held_own {w X Y : World} {B n P K base : Nat} {e : TypeId} {s : RelS} {v : Value} {l : List Int} (h : CutSt w B n P K s X) (ho : Y.ownsRow base e 1 v l.length (l.map (.int .i64))) (hb : X.heap.size ≤ base) (hl : l.length ≤ 1073741824) : Held s.tag Y v l :=
  ⟨own_ints ho hl, fun a n' c' e => by
    rcases ho.2 with ⟨h1, _⟩ | ⟨g, c, cur, h1, h2, h3, _⟩
    · rw [h1] at e; cases e
    · rw [h1] at e
      injection e with e1
      injection e1 with e1
      subst e1
      refine ⟨?_, heap_lt h3⟩
      show s.tag g = none
      cases hT : s.tag g with
      | none => rfl
      | some T => have := h.rel.own.lt g T hT; omega⟩
theorem count_cut {w X : World} {B n P K : Nat} {s : RelS} {ts : List (List Int)} {vc vk : Value} {cols key : List Int} {lo hi : Int} (h : CutSt w B n P K s X) (hts : s.ts = ts) (hc : Held s.tag X vc cols) (hk : Held s.tag X vk key) (hok : okT key) (hrow : rowD n cols = true) (hkl : key.length = cols.length) :
    Calls Try.prog 23 #[.pointer (some ⟨B, 0, none⟩), vc, vk, .int .i64 lo, .int .i64 hi] X fun e w' => ∃ q : Nat, q = ((hits (ts.map fun t => cutL t cols) key).filter (inLH lo hi)).length ∧ e = .returned (.tuple #[.int .i64 (q : Int), .int .i64 0]) ∧
      ∃ s', CutSt w B n P K s' w' ∧ s'.ts = ts ∧ Held s'.tag w' vc cols ∧ Held s'.tag w' vk key := by
  refine (relCount_any h.rel X.heap.size vc vk cols key lo hi hc.1 hk.1 (Nat.le_refl _) hok (fun a n c e => (hc.2 a n c e).1) (fun a n c e => (hk.2 a n c e).1)).mono ?_
  rintro e w' ⟨rfl, s', hi', hs'⟩
  refine ⟨_, rfl, ?_, s', h.same hi' hs', hs'.same.trans hts, hc.same hs', hk.same hs'⟩
  have h16 := h.rel.own.n16
  unfold countD
  rw [hrow, decide_eq_true hkl, Bool.and_self, if_pos rfl, match_hits h16 h.rel.own.len hrow hkl, hts]

set_option maxRecDepth 100000 in
set_option maxHeartbeats 4000000 in
theorem cuts_good (n : Nat) (hn : n ≤ 16) (m : Nat) (v1 vc : Value) (tuples : List (List Int)) (cols : List Int) (cut : Int) (w : World) (h1 : ListsIn m w v1 tuples) (hc : IntsIn m w vc cols) (hm : m ≤ w.heap.size)
    (ok1 : ∀ t ∈ tuples, okT t) (l1 : tuples.length ≤ 1048576) (hfr : ∀ a n c, vc = .slice (some a) n c → a.block < w.heap.size) :
    Calls Try.prog 4 #[.int .i64 (n : Int), v1, vc, .int .i64 cut] w fun e w' => e = .returned (.bool true) ∧ Keep (fun b => b < w.heap.size) w w' := by
  obtain ⟨a1, c1, rfl, hl1, hc1, he1⟩ := id h1
  obtain ⟨ac, cc, rfl, hlc, hcc, hec⟩ := id hc
  clear hec
  have Xh1 := Lib.hid h1
  have Xhc := Lib.hid hc
  have Xhe1 := Lib.hid he1
  have Xok1 := Lib.hid ok1
  have Xhfr := Lib.hid hfr
  clear h1 hc he1 ok1 hfr
  go_enter Try.func4, Try.ntmps4
  go_wp2_with fail
  refine (known4_any w).mono ?_
  rintro e W0 ⟨rfl, k0⟩
  have Xk0 := Lib.hid k0
  clear k0
  go_wp2_with fail
  refine (relNew_any n hn W0).mono ?_
  rintro e W1 ⟨rfl, k1, tag, P, K, hO1, htag⟩
  have hz0 := Xk0.out.size
  have hst : CutSt w (W0.heap.size + 2) n P K ⟨tag, [], .slice none 0 0, []⟩ W1 := ⟨⟨hO1, by simp⟩, (Xk0.out.trans k1).mono fun _ _ _ => trivial, fun b hb => by
      cases hT : tag b with
      | none => exact hT
      | some T => have := htag b T hT; omega⟩
  obtain ⟨B, hB⟩ : ∃ B, W0.heap.size + 2 = B := ⟨_, rfl⟩
  rw [hB] at hst
  rw [hB]
  clear k1 hO1 htag
  have Xhst := Lib.hid hst
  have XhB := Lib.hid hB
  clear hst hB
  go_wp2_with fail
  refine (num_any _ _).mono ?_
  rintro e w1 ⟨rfl, hw1⟩
  have hw1 := hw1.symm
  subst hw1
  go_wp2_with fail
  go_loopw [11] (fun i wr => ∃ (k : Nat) (s : RelS), k ≤ tuples.length ∧ i = .int .i64 (k : Int) ∧ CutSt w B n P K s wr ∧ s.ts.length ≤ k) (fun i _ => tuples.length - (intOf i).toNat)
  case atStart => exact ⟨0, _, by omega, rfl, Xhst.out, by simp⟩
  case round =>
    obtain ⟨k, s, hk, rfl, hs, hts⟩ := hrel
    by_cases hlt' : k < tuples.length
    · obtain ⟨t, ht⟩ : ∃ t, tuples[k]? = some t := ⟨_, List.getElem?_eq_getElem hlt'⟩
      obtain ⟨b, o, rfl, hbm, sv, hcell, hsv⟩ := Xhe1.out k t ht
      have hcell := hs.keep.cell hcell (by simp only; omega)
      simp only [Nat.mul_one] at hcell
      have hbw : b < wr.heap.size := World.block_lt_of_cell? _ _ hcell
      have hlt1 : (k : Int) < tuples.length := by omega
      have hk0 : (0 : Int) ≤ k := by omega
      have hszk := hs.keep.size
      have hsvr := ints_stay hsv (m := m) (hs.keep.mono fun b _ h => by omega) (Nat.le_refl _)
      obtain ⟨at', ct', rfl, hlt3, _, _⟩ := id hsvr
      have hlent := lent_any m _ t wr hsvr (by omega)
      have hokt := Xok1.out t (List.mem_of_getElem? ht)
      have hlen' : (addT n s.ts t).length ≤ k + 1 := by have := addT_len n s.ts t; omega
      clear hsv hsvr ht
      have Xhlent := Lib.hid hlent
      have Xhs := Lib.hid hs
      have Xhokt := Lib.hid hokt
      have Xhlen' := Lib.hid hlen'
      clear hlent hs hokt hlen'
      go_wp2_with fail
      refine Xhlent.out.mono ?_
      rintro e W2 ⟨v1, rfl, k2, hL2⟩
      have hs2 := Xhs.out.stay k2 (fun _ h => h)
      have hi2 := hL2.ints hlt3
      have hz2 := k2.size
      obtain ⟨g, cap, rfl, ho2⟩ := id hL2
      have hcp := own_cap ho2
      have hfree : FreeOf s.tag (.slice (some ⟨g, 0, none⟩) t.length cap) := fun a n' c' e => by
        injection e with e1
        injection e1 with e1
        subst e1
        show s.tag g = none
        cases hT : s.tag g with
        | none => rfl
        | some T => have := Xhs.out.rel.own.lt g T hT; have := hcp.2.2.2; omega
      have hAdd := relAdd_any hs2.rel.own (by omega) W2.heap.size _ t hi2 (Nat.le_refl _) Xhokt.out hfree
      clear k2 hL2 hi2 ho2 hcp hfree
      have Xhs2 := Lib.hid hs2
      have XhAdd := Lib.hid hAdd
      clear hs2 hAdd
      go_wp2_with fail
      refine XhAdd.out.mono ?_
      rintro e W3 ⟨rfl, k3, tag2, vD2, hO2, hle2, hnew2⟩
      have hs3 : CutSt w B n P K ⟨tag2, addT n s.ts t, vD2, s.lm⟩ W3 := by
        refine ⟨⟨hO2, by have := Xhlen'.out; simp only; omega⟩, Xhs2.out.keep.trans (k3.mono fun b _ hb => Xhs2.out.out b hb), fun b hb => ?_⟩
        cases hT : tag2 b with
        | none => exact hT
        | some T =>
          rcases hnew2 b T hT with ⟨T', h3⟩ | h3
          · rw [Xhs2.out.out b hb] at h3; cases h3
          · omega
      clear k3 hO2 hle2 hnew2
      have Xhs3 := Lib.hid hs3
      clear hs3
      go_wp2_with fail
      go_roundw
      case rel => exact ⟨k + 1, _, by omega, by go_num, Xhs3.out, Xhlen'.out⟩
      case measure => simp [intOf]; omega
    · obtain rfl : k = tuples.length := by omega
      have hN : s.ts.length ≤ 1048576 := by omega
      have hlens := hs.rel.own.len
      have hzr := hs.keep.size
      have hiC := ints_stay Xhc.out (m := m) (hs.keep.mono fun b _ h => by omega) (Nat.le_refl _)
      have hD1 := relDistinct_any hs.rel m _ cols hiC (by omega)
      obtain ⟨ts, hts0⟩ : ∃ ts, s.ts = ts := ⟨_, rfl⟩
      rw [hts0] at hD1 hN hts hlens
      have hlen := relLen_any hs.rel.own.box
      rw [hts0] at hlen
      have Xhs := Lib.hid hs
      have XhiC := Lib.hid hiC
      have XhD1 := Lib.hid hD1
      have Xhts0 := Lib.hid hts0
      have Xhlens := Lib.hid hlens
      have Xhlen := Lib.hid hlen
      clear hs hiC hD1 hts0 hlens hlen
      go_wp2_with fail
      refine Xhlen.out.mono ?_
      rintro e w1 ⟨rfl, hw1⟩
      have hw1 := hw1.symm
      subst hw1
      obtain ⟨dA, hdA⟩ : ∃ dA, distD n ts cols = dA := ⟨_, rfl⟩
      rw [hdA] at XhD1
      go_wp2_with fail
      refine XhD1.out.mono ?_
      rintro e W2 ⟨rfl, s2, hinv2, hsm2⟩
      have hs2 := Xhs.out.same hinv2 hsm2
      have hts2 : s2.ts = ts := by rw [hsm2.same, Xhts0.out]
      clear hinv2 hsm2
      cases hrow : rowD n cols with
      | false =>
        have hd2 : dA = (0, 2) := by rw [← hdA]; unfold distD; rw [hrow]; rfl
        subst hd2
        clear hdA
        have Xhs2 := Lib.hid hs2
        have Xhts2 := Lib.hid hts2
        have Xhrow := Lib.hid hrow
        clear hs2 hts2 hrow
        go_wp2_with fail
        refine (num_any _ _).mono ?_
        rintro e w1 ⟨rfl, hw1⟩
        have hw1 := hw1.symm
        subst hw1
        go_wp2_with fail
        go_ret
        exact ⟨rfl, Xhs2.out.keep⟩
      | true =>
        obtain ⟨all, hall⟩ : ∃ all : Nat, (dd (ts.map fun t => cutL t cols)).length = all := ⟨_, rfl⟩
        have hd2 : dA = ((all : Int), 0) := by rw [← hdA]; unfold distD; rw [hrow, hall]; rfl
        subst hd2
        have halln : all ≤ ts.length := by rw [← hall]; have := dd_len (ts.map fun t => cutL t cols); simpa using this
        have hz2 := hs2.keep.size
        have hiC2 := ints_stay Xhc.out (m := m) (hs2.keep.mono fun b _ h => by omega) (Nat.le_refl _)
        clear hdA
        have Xhs2 := Lib.hid hs2
        have Xhts2 := Lib.hid hts2
        have Xhrow := Lib.hid hrow
        have Xhall := Lib.hid hall
        have XhiC2 := Lib.hid hiC2
        clear hs2 hts2 hrow hall hiC2
        go_wp2_with fail
        refine (num_any _ _).mono ?_
        rintro e w1 ⟨rfl, hw1⟩
        have hw1 := hw1.symm
        subst hw1
        have hless : IntsIn m W2 (.slice ac (cols.length - 1) cc) cols.dropLast := by
          obtain ⟨a, c, e1, e2, e3, e4⟩ := XhiC2.out
          injection e1 with q1 _ q2
          subst q1 q2
          refine ⟨ac, cc, by rw [List.length_dropLast], by rw [List.length_dropLast]; omega, by rw [List.length_dropLast]; exact ⟨by omega, e3.2⟩, fun k x hk => ?_⟩
          rw [List.getElem?_dropLast] at hk
          split at hk
          · exact e4 k x hk
          · cases hk
        have hD2 : Calls Try.prog 20 #[.pointer (some ⟨B, 0, none⟩), .slice ac (cols.length - 1) cc] W2 fun e w' => ∃ few : Nat, few ≤ all ∧ (0 < ts.length → 1 ≤ few) ∧ e = .returned (.tuple #[.int .i64 few, .int .i64 0]) ∧ ∃ s', RelInv B n P K s' w' ∧ RelSame s2 W2 s' w' := by
          refine (relDistinct_any Xhs2.out.rel m _ _ hless (by omega)).mono ?_
          rintro e w' ⟨rfl, h⟩
          refine ⟨(dd (ts.map fun t => cutL t cols.dropLast)).length, by rw [← Xhall.out]; exact few_all _ _, fun h0 => dd_pos (by simpa using h0), ?_, h⟩
          unfold distD
          rw [rowD_less Xhrow.out, Xhts2.out]
          rfl
        clear hless
        have XhD2 := Lib.hid hD2
        clear hD2
        obtain ⟨lv, hlv, hD3⟩ : ∃ lv : Nat, lv = (if 0 < cols.length then cols.length - 1 else cols.length) ∧ Calls Try.prog 20 #[.pointer (some ⟨B, 0, none⟩), .slice ac lv cc] W2 fun e w' => ∃ few : Nat, few ≤ all ∧ (0 < ts.length → 1 ≤ few) ∧ e = .returned (.tuple #[.int .i64 few, .int .i64 0]) ∧ ∃ s', RelInv B n P K s' w' ∧ RelSame s2 W2 s' w' := by
          refine ⟨_, rfl, ?_⟩
          have e : (if 0 < cols.length then cols.length - 1 else cols.length) = cols.length - 1 := by split <;> omega
          rw [e]
          exact XhD2.out
        clear XhD2
        have hway : (cols.length = 0 ∧ lv = cols.length) ∨ (0 < cols.length ∧ lv = cols.length - 1) := by
          rw [hlv]
          split <;> omega
        clear hlv
        have XhD3 := Lib.hid hD3
        clear hD3
        rcases hway with ⟨hc0, hlv⟩ | ⟨hc0, hlv⟩
        · have hc1 : ¬ (0 : Int) < cols.length := by omega
          have hdc : decide (0 < cols.length) = false := decide_eq_false (by omega)
          have Xhc0 := Lib.hid hc0
          clear hc0
          rw [hlv] at XhD3
          clear hlv
          go_wp2_with fail
          refine XhD3.out.mono ?_
          rintro e W3 ⟨few, hf1, hf2, rfl, s3, hinv3, hsm3⟩
          have hs3 := Xhs2.out.same hinv3 hsm3
          have hts3 : s3.ts = ts := by rw [hsm3.same, Xhts2.out]
          have hz3 := hs3.keep.size
          clear hinv3 hsm3
          have Xhs3 := Lib.hid hs3
          have Xhts3 := Lib.hid hts3
          clear hs3 hts3
          go_wp2_with fail
          refine (num_any _ _).mono ?_
          rintro e w1 ⟨rfl, hw1⟩
          have hw1 := hw1.symm
          subst hw1
          have hq1 : decide (all < few) = false := decide_eq_false (by omega)
          have hq2 : decide (ts.length < all) = false := decide_eq_false (by omega)
          have hq3 : (0 < ts.length ∧ ¬ ((few : Int) < 1)) ∨ ¬ 0 < ts.length := by
            by_cases h : 0 < ts.length
            · have := hf2 h
              exact .inl ⟨h, by omega⟩
            · exact .inr h
          clear hf2
          rcases hq3 with ⟨hq4, hq5⟩ | hq4
          · have hq6 : decide (0 < ts.length) = true := decide_eq_true hq4
            have hq7 : (0 : Int) < ts.length := by omega
            go_wp2_with fail
            obtain ⟨L, hL⟩ : ∃ L : List (List Int), (ts.map fun t => cutL t cols) = L := ⟨_, rfl⟩
            have hLn : L.length = ts.length := by rw [← hL]; simp
            have hcl16 : cols.length ≤ 16 := by have := rowD_len Xhrow.out; omega
            have XhL := Lib.hid hL
            have XhLn := Lib.hid hLn
            clear hL hLn
            go_loopw [18, 19, 20] (fun sm ky i wr => ∃ (k : Nat) (s : RelS), k ≤ ts.length ∧ i = .int .i64 (k : Int) ∧ sm = .int .i64 (seenN L k : Int) ∧ ky = .int .i64 ((dd (L.take k)).length : Int) ∧ CutSt w B n P K s wr ∧ s.ts = ts) (fun _ _ i _ => ts.length - (intOf i).toNat)
            case atStart => exact ⟨0, s3, by omega, rfl, by rw [seen_zero]; rfl, by simp [dd], Xhs3.out, Xhts3.out⟩
            case round =>
              obtain ⟨k, s, hk, rfl, rfl, rfl, hsr, hsts⟩ := hrel
              have hzr4 := hsr.keep.size
              have hsn := seen_le L k
              have hdn : (dd (L.take k)).length ≤ k := Nat.le_trans (dd_len _) (by rw [List.length_take]; omega)
              have hLn' := XhLn.out
              by_cases hlt4 : k < ts.length
              · obtain ⟨t, ht⟩ : ∃ t, ts[k]? = some t := ⟨_, List.getElem?_eq_getElem hlt4⟩
                have htn : t.length = n := Xhlens.out t (List.mem_of_getElem? ht)
                have hAt := relAt_any hsr.rel k t (by rw [hsts]; exact ht)
                have hLk : L[k]? = some (cutL t cols) := by rw [← XhL.out, List.getElem?_map, ht]; rfl
                have hlt5 : (k : Int) < ts.length := by omega
                have hk0 : (0 : Int) ≤ k := by omega
                obtain ⟨sq, hsq⟩ : ∃ sq, seenN L k = sq := ⟨_, rfl⟩
                obtain ⟨dq, hdq⟩ : ∃ dq, (dd (L.take k)).length = dq := ⟨_, rfl⟩
                rw [hsq] at hsn
                rw [hdq] at hdn
                rw [hsq, hdq]
                have Xhsr := Lib.hid hsr
                have Xhsts := Lib.hid hsts
                have Xht := Lib.hid ht
                have XhAt := Lib.hid hAt
                have XhLk := Lib.hid hLk
                have Xhsq := Lib.hid hsq
                have Xhdq := Lib.hid hdq
                have XhLn' := Lib.hid hLn'
                clear hsr hsts ht hAt hLk hsq hdq hLn'
                go_wp2_with fail
                refine XhAt.out.mono ?_
                rintro e W4 ⟨vx, rfl, ho4, hl4, k4⟩
                have hsr4 := Xhsr.out.stay k4 (fun _ _ => trivial)
                have hz4 := k4.size
                obtain ⟨ax, cx, rfl⟩ := own_form ho4
                have hix := own_ints ho4 hl4
                have hic := ints_wider (ints_stay Xhc.out (m := m) (hsr4.keep.mono fun b _ h => by omega) (Nat.le_refl _)) (show m ≤ W4.heap.size by omega)
                have hcut := refCut_any W4.heap.size _ _ t cols W4 hix hic (Nat.le_refl _) (fun c hc => by have := rowD_at Xhrow.out c hc; omega)
                have hne : ((t.length : Int) != n) = false := by simp [htn]
                have hne2 : (t.length != n) = false := by simp [htn]
                have htok : okT t := Xhsr.out.rel.own.ok t (by rw [Xhsts.out]; exact List.mem_of_getElem? Xht.out)
                have htn' := htn
                clear k4 hix hic htn
                have Xho4 := Lib.hid ho4
                have Xhsr4 := Lib.hid hsr4
                have Xhcut := Lib.hid hcut
                have Xhtok := Lib.hid htok
                have Xhtn' := Lib.hid htn'
                clear ho4 hsr4 hcut htok htn'
                go_wp2_with fail
                refine Xhcut.out.mono ?_
                rintro e W5 ⟨vk, rfl, k5, ho5⟩
                have hsr5 := Xhsr4.out.stay k5 (fun _ hb => hb)
                have hkl : (cutL t cols).length = cols.length := cutL_len _ _
                have hkc := hsr5.held Xhc.out hm (fun a n c e => Xhfr.out a n c e)
                have hkk := held_own Xhsr4.out ho5 (Nat.le_refl _) (by rw [hkl]; omega)
                obtain ⟨ak, ck, rfl⟩ := own_form ho5
                have hC1 := count_cut (lo := 0) (hi := (k : Int)) hsr5 Xhsts.out hkc hkk (okT_cut Xhtok.out) Xhrow.out hkl
                rw [XhL.out] at hC1
                clear k5 ho5 hsr5 hkc hkk
                have XhC1 := Lib.hid hC1
                have Xhkl := Lib.hid hkl
                clear hC1 hkl
                go_wp2_with fail
                refine XhC1.out.mono ?_
                rintro e W6 ⟨q1, hq1e, rfl, s6, hs6, hts6, hvc6, hvk6⟩
                have hC2 := count_cut (lo := 0) (hi := cut) hs6 hts6 hvc6 hvk6 (okT_cut Xhtok.out) Xhrow.out Xhkl.out
                rw [XhL.out] at hC2
                clear hs6 hvc6 hvk6 hts6
                have Xhq1e := Lib.hid hq1e
                have XhC2 := Lib.hid hC2
                clear hq1e hC2
                go_wp2_with fail
                refine XhC2.out.mono ?_
                rintro e W7 ⟨q2, hq2e, rfl, s7, hs7, hts7, hvc7, hvk7⟩
                have hC3 := count_cut (lo := max 0 cut) (hi := (ts.length : Int)) hs7 hts7 hvc7 hvk7 (okT_cut Xhtok.out) Xhrow.out Xhkl.out
                rw [XhL.out] at hC3
                clear hs7 hvc7 hvk7 hts7
                have Xhq2e := Lib.hid hq2e
                have XhC3 := Lib.hid hC3
                clear hq2e hC3
                rcases (show (0 < cut ∧ max 0 cut = cut) ∨ (cut ≤ 0 ∧ max 0 cut = 0) by omega) with ⟨hcu, hmx⟩ | ⟨hcu, hmx⟩
                all_goals
                  rw [hmx] at XhC3
                  have Xhmx := Lib.hid hmx
                  clear hmx
                  go_wp2_with fail
                  refine XhC3.out.mono ?_
                  rintro e W8 ⟨q3, hq3e, rfl, s8, hs8, hts8, hvc8, hvk8⟩
                  have hC4 := count_cut (lo := 0) (hi := (ts.length : Int)) hs8 hts8 hvc8 hvk8 (okT_cut Xhtok.out) Xhrow.out Xhkl.out
                  rw [XhL.out] at hC4
                  clear hs8 hvc8 hvk8 hts8
                  have Xhq3e := Lib.hid hq3e
                  have XhC4 := Lib.hid hC4
                  clear hq3e hC4
                  go_wp2_with fail
                  refine XhC4.out.mono ?_
                  rintro e W9 ⟨q4, hq4e, rfl, s9, hs9, hts9, hvc9, hvk9⟩
                  have e4 : q4 = (L.filter fun y => decide (y = cutL t cols)).length := by rw [hq4e]; exact hits_all _ _ _ (by rw [XhLn'.out])
                  have e23 : q2 + q3 = (L.filter fun y => decide (y = cutL t cols)).length := by rw [Xhq2e.out, Xhq3e.out]; exact hits_cut L _ cut _ _ (by rw [XhLn'.out]) Xhmx.out.symm
                  have hp4 : 1 ≤ q4 := by rw [e4]; exact hits_pos (List.mem_of_getElem? XhLk.out)
                  have hle4 : q4 ≤ ts.length := by rw [e4, ← XhLn'.out]; exact List.length_filter_le _ _
                  have hah : q1 = 0 ↔ cutL t cols ∉ L.take k := by rw [Xhq1e.out]; exact hits_ahead (by have := XhLn'.out; omega)
                  have hs23 : q2 + q3 = q4 := by rw [e4]; exact e23
                  clear hq4e
                  obtain rfl : q4 = q2 + q3 := hs23.symm
                  have hg3 : ¬ (q2 : Int) + q3 < 1 := by omega
                  have hg4 : decide ((q2 : Int) + q3 < 1) = false := decide_eq_false hg3
                  have hg5 : decide (q2 + q3 < 1) = false := decide_eq_false (by omega)
                  clear hs23
                  have hq2b : (q2 : Int) + q3 ≤ 1048576 := by omega
                  clear hvc9 hvk9 e23
                  have Xe4 := Lib.hid e4
                  have Xhah := Lib.hid hah
                  have Xhs9 := Lib.hid hs9
                  have Xhts9 := Lib.hid hts9
                  clear e4 hah hs9 hts9
                  go_wp2_with fail
                  refine (num_any _ _).mono ?_
                  rintro e w1 ⟨rfl, hw1⟩
                  have hw1 := hw1.symm
                  subst hw1
                  go_wp2_with fail
                  refine (num_any _ _).mono ?_
                  rintro e w1 ⟨rfl, hw1⟩
                  have hw1 := hw1.symm
                  subst hw1
                  go_wp2_with fail
                  refine (num_any _ _).mono ?_
                  rintro e w1 ⟨rfl, hw1⟩
                  have hw1 := hw1.symm
                  subst hw1
                  go_wp2_with fail
                  refine (num_any _ _).mono ?_
                  rintro e w1 ⟨rfl, hw1⟩
                  have hw1 := hw1.symm
                  subst hw1
                  have hseen := seen_le L (k + 1)
                  by_cases hq0 : q1 = 0
                  · have hnot := Xhah.out.1 hq0
                    have hs' : seenN L (k + 1) = sq + (q2 + q3) := by rw [seen_new XhLk.out hnot, Xhsq.out, Xe4.out]
                    have hd' : (dd (L.take (k + 1))).length = dq + 1 := by rw [dd_take XhLk.out, if_neg hnot, List.length_append, Xhdq.out]; rfl
                    rw [hs', XhLn'.out] at hseen
                    have hq01 : ((q1 : Int) == 0) = true := by rw [hq0]; rfl
                    have hsb : (sq : Int) + (q2 + q3) ≤ 1048576 := by omega
                    have hdb : (dq : Int) + 1 ≤ 1048577 := by omega
                    have hsb0 : (0 : Int) ≤ (sq : Int) + (q2 + q3) := by omega
                    have hdb0 : (0 : Int) ≤ (dq : Int) + 1 := by omega
                    clear hnot hseen
                    have Xhs' := Lib.hid hs'
                    have Xhd' := Lib.hid hd'
                    have Xhq0 := Lib.hid hq0
                    clear hs' hd' hq0
                    go_wp2_with fail
                    go_roundw
                    case rel => exact ⟨k + 1, s9, by omega, by go_num, by rw [Xhs'.out]; simp, by rw [Xhd'.out]; simp, Xhs9.out, Xhts9.out⟩
                    case measure => simp [intOf]; omega
                  · have hin : cutL t cols ∈ L.take k := Classical.byContradiction fun h => hq0 (Xhah.out.2 h)
                    have hs' : seenN L (k + 1) = sq := by rw [seen_old XhLk.out hin, Xhsq.out]
                    have hd' : (dd (L.take (k + 1))).length = dq := by rw [dd_take XhLk.out, if_pos hin, Xhdq.out]
                    have hq01 : ((q1 : Int) == 0) = false := by rw [beq_eq_false_iff_ne]; omega
                    clear hin hseen
                    have Xhs' := Lib.hid hs'
                    have Xhd' := Lib.hid hd'
                    have Xhq0 := Lib.hid hq0
                    clear hs' hd' hq0
                    go_wp2_with fail
                    go_roundw
                    case rel => exact ⟨k + 1, s9, by omega, by go_num, by rw [Xhs'.out], by rw [Xhd'.out], Xhs9.out, Xhts9.out⟩
                    case measure => simp [intOf]; omega
              · obtain rfl : k = ts.length := by omega
                have hsum : seenN L ts.length = ts.length := by rw [← hLn']; exact seen_all L
                have hkeys : (dd (L.take ts.length)).length = all := by rw [← hLn', List.take_length, ← XhL.out, Xhall.out]
                rw [hsum, hkeys]
                clear hsum hkeys hsn hdn hLn'
                have Xhsr := Lib.hid hsr
                have Xhsts := Lib.hid hsts
                clear hsr hsts
                go_wp2_with fail
                go_ret
                exact ⟨rfl, Xhsr.out.keep⟩
          · have hq6 : decide (0 < ts.length) = false := decide_eq_false hq4
            have hq7 : ¬ (0 : Int) < ts.length := by omega
            go_wp2_with fail
            obtain ⟨L, hL⟩ : ∃ L : List (List Int), (ts.map fun t => cutL t cols) = L := ⟨_, rfl⟩
            have hLn : L.length = ts.length := by rw [← hL]; simp
            have hcl16 : cols.length ≤ 16 := by have := rowD_len Xhrow.out; omega
            have XhL := Lib.hid hL
            have XhLn := Lib.hid hLn
            clear hL hLn
            go_loopw [18, 19, 20] (fun sm ky i wr => ∃ (k : Nat) (s : RelS), k ≤ ts.length ∧ i = .int .i64 (k : Int) ∧ sm = .int .i64 (seenN L k : Int) ∧ ky = .int .i64 ((dd (L.take k)).length : Int) ∧ CutSt w B n P K s wr ∧ s.ts = ts) (fun _ _ i _ => ts.length - (intOf i).toNat)
            case atStart => exact ⟨0, s3, by omega, rfl, by rw [seen_zero]; rfl, by simp [dd], Xhs3.out, Xhts3.out⟩
            case round =>
              obtain ⟨k, s, hk, rfl, rfl, rfl, hsr, hsts⟩ := hrel
              have hzr4 := hsr.keep.size
              have hsn := seen_le L k
              have hdn : (dd (L.take k)).length ≤ k := Nat.le_trans (dd_len _) (by rw [List.length_take]; omega)
              have hLn' := XhLn.out
              obtain rfl : k = ts.length := by omega
              have hsum : seenN L ts.length = ts.length := by rw [← hLn']; exact seen_all L
              have hkeys : (dd (L.take ts.length)).length = all := by rw [← hLn', List.take_length, ← XhL.out, Xhall.out]
              rw [hsum, hkeys]
              clear hsum hkeys hsn hdn hLn'
              have Xhsr := Lib.hid hsr
              have Xhsts := Lib.hid hsts
              clear hsr hsts
              go_wp2_with fail
              go_ret
              exact ⟨rfl, Xhsr.out.keep⟩
        · have hc1 : (0 : Int) < cols.length := by omega
          have hdc : decide (0 < cols.length) = true := decide_eq_true (by omega)
          have hc2 : (1 : Int) ≤ cols.length := by omega
          have hc3 : ((cols.length : Int) - 1).toNat = cols.length - 1 := by omega
          have Xhc0 := Lib.hid hc0
          clear hc0
          rw [hlv] at XhD3
          clear hlv
          go_wp2_with fail
          refine XhD3.out.mono ?_
          rintro e W3 ⟨few, hf1, hf2, rfl, s3, hinv3, hsm3⟩
          have hs3 := Xhs2.out.same hinv3 hsm3
          have hts3 : s3.ts = ts := by rw [hsm3.same, Xhts2.out]
          have hz3 := hs3.keep.size
          clear hinv3 hsm3
          have Xhs3 := Lib.hid hs3
          have Xhts3 := Lib.hid hts3
          clear hs3 hts3
          go_wp2_with fail
          refine (num_any _ _).mono ?_
          rintro e w1 ⟨rfl, hw1⟩
          have hw1 := hw1.symm
          subst hw1
          have hq1 : decide (all < few) = false := decide_eq_false (by omega)
          have hq2 : decide (ts.length < all) = false := decide_eq_false (by omega)
          have hq3 : (0 < ts.length ∧ ¬ ((few : Int) < 1)) ∨ ¬ 0 < ts.length := by
            by_cases h : 0 < ts.length
            · have := hf2 h
              exact .inl ⟨h, by omega⟩
            · exact .inr h
          clear hf2
          rcases hq3 with ⟨hq4, hq5⟩ | hq4
          · have hq6 : decide (0 < ts.length) = true := decide_eq_true hq4
            have hq7 : (0 : Int) < ts.length := by omega
            go_wp2_with fail
            obtain ⟨L, hL⟩ : ∃ L : List (List Int), (ts.map fun t => cutL t cols) = L := ⟨_, rfl⟩
            have hLn : L.length = ts.length := by rw [← hL]; simp
            have hcl16 : cols.length ≤ 16 := by have := rowD_len Xhrow.out; omega
            have XhL := Lib.hid hL
            have XhLn := Lib.hid hLn
            clear hL hLn
            go_loopw [18, 19, 20] (fun sm ky i wr => ∃ (k : Nat) (s : RelS), k ≤ ts.length ∧ i = .int .i64 (k : Int) ∧ sm = .int .i64 (seenN L k : Int) ∧ ky = .int .i64 ((dd (L.take k)).length : Int) ∧ CutSt w B n P K s wr ∧ s.ts = ts) (fun _ _ i _ => ts.length - (intOf i).toNat)
            case atStart => exact ⟨0, s3, by omega, rfl, by rw [seen_zero]; rfl, by simp [dd], Xhs3.out, Xhts3.out⟩
            case round =>
              obtain ⟨k, s, hk, rfl, rfl, rfl, hsr, hsts⟩ := hrel
              have hzr4 := hsr.keep.size
              have hsn := seen_le L k
              have hdn : (dd (L.take k)).length ≤ k := Nat.le_trans (dd_len _) (by rw [List.length_take]; omega)
              have hLn' := XhLn.out
              by_cases hlt4 : k < ts.length
              · obtain ⟨t, ht⟩ : ∃ t, ts[k]? = some t := ⟨_, List.getElem?_eq_getElem hlt4⟩
                have htn : t.length = n := Xhlens.out t (List.mem_of_getElem? ht)
                have hAt := relAt_any hsr.rel k t (by rw [hsts]; exact ht)
                have hLk : L[k]? = some (cutL t cols) := by rw [← XhL.out, List.getElem?_map, ht]; rfl
                have hlt5 : (k : Int) < ts.length := by omega
                have hk0 : (0 : Int) ≤ k := by omega
                obtain ⟨sq, hsq⟩ : ∃ sq, seenN L k = sq := ⟨_, rfl⟩
                obtain ⟨dq, hdq⟩ : ∃ dq, (dd (L.take k)).length = dq := ⟨_, rfl⟩
                rw [hsq] at hsn
                rw [hdq] at hdn
                rw [hsq, hdq]
                have Xhsr := Lib.hid hsr
                have Xhsts := Lib.hid hsts
                have Xht := Lib.hid ht
                have XhAt := Lib.hid hAt
                have XhLk := Lib.hid hLk
                have Xhsq := Lib.hid hsq
                have Xhdq := Lib.hid hdq
                have XhLn' := Lib.hid hLn'
                clear hsr hsts ht hAt hLk hsq hdq hLn'
                go_wp2_with fail
                refine XhAt.out.mono ?_
                rintro e W4 ⟨vx, rfl, ho4, hl4, k4⟩
                have hsr4 := Xhsr.out.stay k4 (fun _ _ => trivial)
                have hz4 := k4.size
                obtain ⟨ax, cx, rfl⟩ := own_form ho4
                have hix := own_ints ho4 hl4
                have hic := ints_wider (ints_stay Xhc.out (m := m) (hsr4.keep.mono fun b _ h => by omega) (Nat.le_refl _)) (show m ≤ W4.heap.size by omega)
                have hcut := refCut_any W4.heap.size _ _ t cols W4 hix hic (Nat.le_refl _) (fun c hc => by have := rowD_at Xhrow.out c hc; omega)
                have hne : ((t.length : Int) != n) = false := by simp [htn]
                have hne2 : (t.length != n) = false := by simp [htn]
                have htok : okT t := Xhsr.out.rel.own.ok t (by rw [Xhsts.out]; exact List.mem_of_getElem? Xht.out)
                have htn' := htn
                clear k4 hix hic htn
                have Xho4 := Lib.hid ho4
                have Xhsr4 := Lib.hid hsr4
                have Xhcut := Lib.hid hcut
                have Xhtok := Lib.hid htok
                have Xhtn' := Lib.hid htn'
                clear ho4 hsr4 hcut htok htn'
                go_wp2_with fail
                refine Xhcut.out.mono ?_
                rintro e W5 ⟨vk, rfl, k5, ho5⟩
                have hsr5 := Xhsr4.out.stay k5 (fun _ hb => hb)
                have hkl : (cutL t cols).length = cols.length := cutL_len _ _
                have hkc := hsr5.held Xhc.out hm (fun a n c e => Xhfr.out a n c e)
                have hkk := held_own Xhsr4.out ho5 (Nat.le_refl _) (by rw [hkl]; omega)
                obtain ⟨ak, ck, rfl⟩ := own_form ho5
                have hC1 := count_cut (lo := 0) (hi := (k : Int)) hsr5 Xhsts.out hkc hkk (okT_cut Xhtok.out) Xhrow.out hkl
                rw [XhL.out] at hC1
                clear k5 ho5 hsr5 hkc hkk
                have XhC1 := Lib.hid hC1
                have Xhkl := Lib.hid hkl
                clear hC1 hkl
                go_wp2_with fail
                refine XhC1.out.mono ?_
                rintro e W6 ⟨q1, hq1e, rfl, s6, hs6, hts6, hvc6, hvk6⟩
                have hC2 := count_cut (lo := 0) (hi := cut) hs6 hts6 hvc6 hvk6 (okT_cut Xhtok.out) Xhrow.out Xhkl.out
                rw [XhL.out] at hC2
                clear hs6 hvc6 hvk6 hts6
                have Xhq1e := Lib.hid hq1e
                have XhC2 := Lib.hid hC2
                clear hq1e hC2
                go_wp2_with fail
                refine XhC2.out.mono ?_
                rintro e W7 ⟨q2, hq2e, rfl, s7, hs7, hts7, hvc7, hvk7⟩
                have hC3 := count_cut (lo := max 0 cut) (hi := (ts.length : Int)) hs7 hts7 hvc7 hvk7 (okT_cut Xhtok.out) Xhrow.out Xhkl.out
                rw [XhL.out] at hC3
                clear hs7 hvc7 hvk7 hts7
                have Xhq2e := Lib.hid hq2e
                have XhC3 := Lib.hid hC3
                clear hq2e hC3
                rcases (show (0 < cut ∧ max 0 cut = cut) ∨ (cut ≤ 0 ∧ max 0 cut = 0) by omega) with ⟨hcu, hmx⟩ | ⟨hcu, hmx⟩
                all_goals
                  rw [hmx] at XhC3
                  have Xhmx := Lib.hid hmx
                  clear hmx
                  go_wp2_with fail
                  refine XhC3.out.mono ?_
                  rintro e W8 ⟨q3, hq3e, rfl, s8, hs8, hts8, hvc8, hvk8⟩
                  have hC4 := count_cut (lo := 0) (hi := (ts.length : Int)) hs8 hts8 hvc8 hvk8 (okT_cut Xhtok.out) Xhrow.out Xhkl.out
                  rw [XhL.out] at hC4
                  clear hs8 hvc8 hvk8 hts8
                  have Xhq3e := Lib.hid hq3e
                  have XhC4 := Lib.hid hC4
                  clear hq3e hC4
                  go_wp2_with fail
                  refine XhC4.out.mono ?_
                  rintro e W9 ⟨q4, hq4e, rfl, s9, hs9, hts9, hvc9, hvk9⟩
                  have e4 : q4 = (L.filter fun y => decide (y = cutL t cols)).length := by rw [hq4e]; exact hits_all _ _ _ (by rw [XhLn'.out])
                  have e23 : q2 + q3 = (L.filter fun y => decide (y = cutL t cols)).length := by rw [Xhq2e.out, Xhq3e.out]; exact hits_cut L _ cut _ _ (by rw [XhLn'.out]) Xhmx.out.symm
                  have hp4 : 1 ≤ q4 := by rw [e4]; exact hits_pos (List.mem_of_getElem? XhLk.out)
                  have hle4 : q4 ≤ ts.length := by rw [e4, ← XhLn'.out]; exact List.length_filter_le _ _
                  have hah : q1 = 0 ↔ cutL t cols ∉ L.take k := by rw [Xhq1e.out]; exact hits_ahead (by have := XhLn'.out; omega)
                  have hs23 : q2 + q3 = q4 := by rw [e4]; exact e23
                  clear hq4e
                  obtain rfl : q4 = q2 + q3 := hs23.symm
                  have hg3 : ¬ (q2 : Int) + q3 < 1 := by omega
                  have hg4 : decide ((q2 : Int) + q3 < 1) = false := decide_eq_false hg3
                  have hg5 : decide (q2 + q3 < 1) = false := decide_eq_false (by omega)
                  clear hs23
                  have hq2b : (q2 : Int) + q3 ≤ 1048576 := by omega
                  clear hvc9 hvk9 e23
                  have Xe4 := Lib.hid e4
                  have Xhah := Lib.hid hah
                  have Xhs9 := Lib.hid hs9
                  have Xhts9 := Lib.hid hts9
                  clear e4 hah hs9 hts9
                  go_wp2_with fail
                  refine (num_any _ _).mono ?_
                  rintro e w1 ⟨rfl, hw1⟩
                  have hw1 := hw1.symm
                  subst hw1
                  go_wp2_with fail
                  refine (num_any _ _).mono ?_
                  rintro e w1 ⟨rfl, hw1⟩
                  have hw1 := hw1.symm
                  subst hw1
                  go_wp2_with fail
                  refine (num_any _ _).mono ?_
                  rintro e w1 ⟨rfl, hw1⟩
                  have hw1 := hw1.symm
                  subst hw1
                  go_wp2_with fail
                  refine (num_any _ _).mono ?_
                  rintro e w1 ⟨rfl, hw1⟩
                  have hw1 := hw1.symm
                  subst hw1
                  have hseen := seen_le L (k + 1)
                  by_cases hq0 : q1 = 0
                  · have hnot := Xhah.out.1 hq0
                    have hs' : seenN L (k + 1) = sq + (q2 + q3) := by rw [seen_new XhLk.out hnot, Xhsq.out, Xe4.out]
                    have hd' : (dd (L.take (k + 1))).length = dq + 1 := by rw [dd_take XhLk.out, if_neg hnot, List.length_append, Xhdq.out]; rfl
                    rw [hs', XhLn'.out] at hseen
                    have hq01 : ((q1 : Int) == 0) = true := by rw [hq0]; rfl
                    have hsb : (sq : Int) + (q2 + q3) ≤ 1048576 := by omega
                    have hdb : (dq : Int) + 1 ≤ 1048577 := by omega
                    have hsb0 : (0 : Int) ≤ (sq : Int) + (q2 + q3) := by omega
                    have hdb0 : (0 : Int) ≤ (dq : Int) + 1 := by omega
                    clear hnot hseen
                    have Xhs' := Lib.hid hs'
                    have Xhd' := Lib.hid hd'
                    have Xhq0 := Lib.hid hq0
                    clear hs' hd' hq0
                    go_wp2_with fail
                    go_roundw
                    case rel => exact ⟨k + 1, s9, by omega, by go_num, by rw [Xhs'.out]; simp, by rw [Xhd'.out]; simp, Xhs9.out, Xhts9.out⟩
                    case measure => simp [intOf]; omega
                  · have hin : cutL t cols ∈ L.take k := Classical.byContradiction fun h => hq0 (Xhah.out.2 h)
                    have hs' : seenN L (k + 1) = sq := by rw [seen_old XhLk.out hin, Xhsq.out]
                    have hd' : (dd (L.take (k + 1))).length = dq := by rw [dd_take XhLk.out, if_pos hin, Xhdq.out]
                    have hq01 : ((q1 : Int) == 0) = false := by rw [beq_eq_false_iff_ne]; omega
                    clear hin hseen
                    have Xhs' := Lib.hid hs'
                    have Xhd' := Lib.hid hd'
                    have Xhq0 := Lib.hid hq0
                    clear hs' hd' hq0
                    go_wp2_with fail
                    go_roundw
                    case rel => exact ⟨k + 1, s9, by omega, by go_num, by rw [Xhs'.out], by rw [Xhd'.out], Xhs9.out, Xhts9.out⟩
                    case measure => simp [intOf]; omega
              · obtain rfl : k = ts.length := by omega
                have hsum : seenN L ts.length = ts.length := by rw [← hLn']; exact seen_all L
                have hkeys : (dd (L.take ts.length)).length = all := by rw [← hLn', List.take_length, ← XhL.out, Xhall.out]
                rw [hsum, hkeys]
                clear hsum hkeys hsn hdn hLn'
                have Xhsr := Lib.hid hsr
                have Xhsts := Lib.hid hsts
                clear hsr hsts
                go_wp2_with fail
                go_ret
                exact ⟨rfl, Xhsr.out.keep⟩
          · have hq6 : decide (0 < ts.length) = false := decide_eq_false hq4
            have hq7 : ¬ (0 : Int) < ts.length := by omega
            go_wp2_with fail
            obtain ⟨L, hL⟩ : ∃ L : List (List Int), (ts.map fun t => cutL t cols) = L := ⟨_, rfl⟩
            have hLn : L.length = ts.length := by rw [← hL]; simp
            have hcl16 : cols.length ≤ 16 := by have := rowD_len Xhrow.out; omega
            have XhL := Lib.hid hL
            have XhLn := Lib.hid hLn
            clear hL hLn
            go_loopw [18, 19, 20] (fun sm ky i wr => ∃ (k : Nat) (s : RelS), k ≤ ts.length ∧ i = .int .i64 (k : Int) ∧ sm = .int .i64 (seenN L k : Int) ∧ ky = .int .i64 ((dd (L.take k)).length : Int) ∧ CutSt w B n P K s wr ∧ s.ts = ts) (fun _ _ i _ => ts.length - (intOf i).toNat)
            case atStart => exact ⟨0, s3, by omega, rfl, by rw [seen_zero]; rfl, by simp [dd], Xhs3.out, Xhts3.out⟩
            case round =>
              obtain ⟨k, s, hk, rfl, rfl, rfl, hsr, hsts⟩ := hrel
              have hzr4 := hsr.keep.size
              have hsn := seen_le L k
              have hdn : (dd (L.take k)).length ≤ k := Nat.le_trans (dd_len _) (by rw [List.length_take]; omega)
              have hLn' := XhLn.out
              obtain rfl : k = ts.length := by omega
              have hsum : seenN L ts.length = ts.length := by rw [← hLn']; exact seen_all L
              have hkeys : (dd (L.take ts.length)).length = all := by rw [← hLn', List.take_length, ← XhL.out, Xhall.out]
              rw [hsum, hkeys]
              clear hsum hkeys hsn hdn hLn'
              have Xhsr := Lib.hid hsr
              have Xhsts := Lib.hid hsts
              clear hsr hsts
              go_wp2_with fail
              go_ret
              exact ⟨rfl, Xhsr.out.keep⟩
end Go.Proofs
