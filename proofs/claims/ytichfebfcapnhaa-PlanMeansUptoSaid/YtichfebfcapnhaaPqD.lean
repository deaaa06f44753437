/- Layer 16 (plan): the reference's orders. -/
import Derived.Test.YtichfebfcapnhaaProg
import Derived.Test.YtichfebfcapnhaaPqA
import Derived.Test.YtichfebfcapnhaaPnQToOwnB
namespace Go.Proofs
open Go.RowKit Go.Ink Go.Flt
set_option linter.unusedVariables false
set_option linter.unusedSimpArgs false
attribute [local go_sem] Oper.semAt_some

def extO (o : List Int) (j : Nat) : List (List Int) := ((List.range j).filter fun i : Nat => !o.contains (i : Int)).map fun i : Nat => o ++ [(i : Int)]
def lvlO (n : Nat) : Nat → List (List Int)
  | 0 => [[]]
  | k + 1 => (lvlO n k).flatMap fun o => extO o n
theorem extO_succ (o : List Int) (j : Nat) : extO o (j + 1) = extO o j ++ (if o.contains (j : Int) then [] else [o ++ [(j : Int)]]) := by
  unfold extO
  rw [List.range_succ, List.filter_append, List.map_append]
  by_cases h : (j : Int) ∈ o
  · simp [h]
  · simp [h]
theorem contains_snoc (l : List Int) (x j : Int) : (l ++ [x]).contains j = (l.contains j || (x == j)) := by
  rw [Bool.eq_iff_iff, Bool.or_eq_true, List.contains_iff_mem, List.contains_iff_mem, List.mem_append, List.mem_singleton, beq_iff_eq]
  exact or_congr_right eq_comm
theorem extO_len (o : List Int) (j : Nat) : (extO o j).length ≤ j := by
  unfold extO
  rw [List.length_map]
  exact Nat.le_trans (List.length_filter_le _ _) (by rw [List.length_range]; exact Nat.le_refl _)
theorem flatO_len (l : List (List Int)) (n : Nat) : (l.flatMap fun o => extO o n).length ≤ l.length * n := by
  induction l with
  | nil => simp
  | cons o l ih =>
    rw [List.flatMap_cons, List.length_append, List.length_cons, Nat.succ_mul]
    have := extO_len o n
    omega
theorem lvlO_each (n : Nat) : ∀ k o, o ∈ lvlO n k → o.length = k := by
  intro k
  induction k with
  | zero => intro o h; simp only [lvlO, List.mem_singleton] at h; subst h; rfl
  | succ k ih =>
    intro o h
    obtain ⟨p, hp, hx⟩ := List.mem_flatMap.1 h
    unfold extO at hx
    obtain ⟨i, -, rfl⟩ := List.mem_map.1 hx
    rw [List.length_append, ih p hp]; rfl
theorem lvlO_len (n : Nat) (h6 : n ≤ 6) : ∀ k, k ≤ 6 → (lvlO n k).length ≤ 6 ^ k := by
  intro k
  induction k with
  | zero => intro _; exact Nat.le_refl _
  | succ k ih =>
    intro hk
    have h1 := flatO_len (lvlO n k) n
    have h2 := ih (by omega)
    rw [Nat.pow_succ]
    exact Nat.le_trans h1 (Nat.mul_le_mul h2 h6)
theorem take_flat (l : List (List Int)) (n k : Nat) {o : List Int} (h : l[k]? = some o) : (l.take (k + 1)).flatMap (fun o => extO o n) = (l.take k).flatMap (fun o => extO o n) ++ extO o n := by
  rw [List.take_add_one, h, List.flatMap_append]
  simp

theorem el_lists : ElemOf Try.prog 110 61 1 24 := elem_of (z := .slice none 0 0) (by kernel_rfl) (by kernel_rfl) rfl (by decide) (by decide)
/-- lists of numbers of the call's own -/
def OrdOwn (base : Nat) (w : World) (v : Value) (ls : List (List Int)) : Prop :=
  ∃ qs : List (List Int × Value), qs.map (·.1) = ls ∧ w.ownsRow base 61 1 v ls.length (qs.map (·.2)) ∧ ∀ q, q ∈ qs → w.ownsRow base 3 1 q.2 q.1.length (q.1.map (.int .i64))
theorem OrdOwn.nil (base : Nat) (w : World) : OrdOwn base w (.slice none 0 0) [] := ⟨[], rfl, World.ownsRow_nil _ _ _ _, by simp⟩
theorem OrdOwn.form {base : Nat} {w : World} {v : Value} {ls : List (List Int)} (h : OrdOwn base w v ls) : ∃ a c, v = .slice a ls.length c := by
  obtain ⟨qs, _, ho, _⟩ := h
  exact own_form ho
theorem OrdOwn.keep {base : Nat} {w w' : World} {v : Value} {ls : List (List Int)} {C : Nat → Prop} (h : OrdOwn base w v ls) (hK : Keep C w w') (hC : ∀ b, base ≤ b → b < w.heap.size → C b) : OrdOwn base w' v ls := by
  obtain ⟨qs, hq, ho, hall⟩ := h
  exact ⟨qs, hq, own_kept ho hK fun b hb => hC b (World.ownsRow.lt ho b hb).1 (World.ownsRow.lt ho b hb).2, fun q hm => own_kept (hall q hm) hK fun b hb => hC b (World.ownsRow.lt (hall q hm) b hb).1 (World.ownsRow.lt (hall q hm) b hb).2⟩
theorem OrdOwn.mono {base base' : Nat} {w : World} {v : Value} {ls : List (List Int)} (h : OrdOwn base w v ls) (hb : base' ≤ base) : OrdOwn base' w v ls := by
  obtain ⟨qs, hq, ho, hall⟩ := h
  exact ⟨qs, hq, ho.mono hb, fun q hm => (hall q hm).mono hb⟩
/-- the list at a place -/
theorem OrdOwn.at {base : Nat} {w : World} {a : Option Addr} {n c : Nat} {ls : List (List Int)} (h : OrdOwn base w (.slice a n c) ls) (hn : ls.length = n) {k : Nat} {o : List Int} (hk : ls[k]? = some o) :
    ∃ b v, a = some ⟨b, 0, none⟩ ∧ w.cell? ⟨b, k, none⟩ = some v ∧ b < w.heap.size ∧ base ≤ b ∧ w.ownsRow base 3 1 v o.length (o.map (.int .i64)) := by
  obtain ⟨qs, hq, ho, hall⟩ := h
  have hq2 : (qs.map (·.1))[k]? = some o := by rw [hq]; exact hk
  rw [List.getElem?_map] at hq2
  obtain ⟨q, hqk, rfl⟩ := Option.map_eq_some_iff.1 hq2
  have hlt := (List.getElem?_eq_some_iff.1 hk).1
  have hl := World.ownsRow.lt ho
  rcases id ho.2 with ⟨h1, h2⟩ | ⟨g, cap, cur, h1, hb, hg, hnc, _⟩
  · rw [h2] at hlt; omega
  · cases h1
    refine ⟨g, q.2, rfl, ?_, heap_lt hg, hb, hall q (List.mem_of_getElem? hqk)⟩
    have := ho.cells (g := g) rfl k q.2 (by rw [List.getElem?_map, hqk]; rfl)
    rwa [show ((⟨g, 0, none⟩ : Addr).add k) = ⟨g, k, none⟩ from by unfold Addr.add; split <;> simp_all] at this
theorem OrdOwn.lo {base : Nat} {w : World} {v : Value} {ls : List (List Int)} (h : OrdOwn base w v ls) {b : Nat} (hb : v.ownBlock = some b) : base ≤ b ∧ b < w.heap.size := by
  obtain ⟨qs, hq, ho, hall⟩ := h
  exact World.ownsRow.lt ho b hb
/-- a list more -/
theorem OrdOwn.snoc {base : Nat} {w : World} {v : Value} {ls : List (List Int)} (h : OrdOwn base w v ls) (o : List Int) (vo : Value) (ho : w.ownsRow base 3 1 vo o.length (o.map (.int .i64))) (hl : ls.length ≤ 1073741824) (hbase : base ≤ w.heap.size) :
    ∃ v' w', (Builtin.append_ #[110, 110] 110 #[v, .slice (some ⟨w.heap.size, 0, none⟩) 1 1]).run Try.prog (w.alloc (.cells #[vo] 61)) = .ok v' w' ∧ OrdOwn base w' v' (ls ++ [o]) ∧ Keep (fun b => some b ≠ v.ownBlock) w w' := by
  obtain ⟨qs, hq, h1, hall⟩ := h
  obtain ⟨ao, co, hvo⟩ := own_form ho
  obtain ⟨v', w', hr, h2, hk, g, cap, hv, hg, hl2⟩ := app1 (P := Try.prog) el_lists 110 h1 [vo] rfl (by rw [hvo]; simp [Value.oneCell']) (by omega) hbase
  have hoth : ∀ {u : Value} {m : Nat} {xs : List Value}, w.ownsRow base 3 1 u m xs → w'.ownsRow base 3 1 u m xs := fun ho3 => own_kept ho3 hk (fun b hb e2 => by
    obtain ⟨c1, t1⟩ := own_typed ho3 hb
    obtain ⟨c2, t2⟩ := own_typed h1 e2.symm
    rw [t1] at t2
    cases t2)
  refine ⟨v', w', hr, ⟨qs ++ [(o, vo)], by rw [List.map_append, hq]; rfl, by rw [List.length_append, List.map_append]; exact h2, fun q hm => ?_⟩, hk⟩
  rcases List.mem_append.1 hm with hm | hm
  · exact hoth (hall q hm)
  · simp only [List.mem_singleton] at hm
    subst hm
    exact hoth ho

set_option maxRecDepth 100000 in
set_option maxHeartbeats 2000000 in
theorem orders_any (n : Nat) (h6 : n ≤ 6) (w : World) :
    Calls Try.prog 61 #[.int .i64 (n : Int)] w fun e w' => ∃ v, e = .returned v ∧ OrdOwn w.heap.size w' v (lvlO n n) ∧ Keep (fun b => b < w.heap.size) w w' := by
  have hlen := fun k (hk : k ≤ 6) => lvlO_len n h6 k hk
  have hpow : ∀ k, k ≤ 5 → 6 ^ k ≤ 7776 := fun k hk => by
    have := Nat.pow_le_pow_right (show 0 < 6 by omega) hk
    exact Nat.le_trans this (by decide)
  obtain ⟨N, hN⟩ : ∃ N, w.heap.size = N := ⟨_, rfl⟩
  have Xhlen := Lib.hid hlen
  have Xhpow := Lib.hid hpow
  have XhN := Lib.hid hN
  clear hlen hpow hN
  go_enter Try.func61, Try.ntmps61
  go_upto_region 2 with fail
  refine wp_abs (fun W => Keep (fun b => b < w.heap.size) w W ∧ OrdOwn w.heap.size W (.slice (some ⟨w.heap.size, 0, none⟩) 1 1) [[]]) ?_ ?_
  · refine ⟨Keep.alloc _ _ _, [([], .slice none 0 0)], rfl, ⟨rfl, .inr ⟨w.heap.size, 1, _, rfl, Nat.le_refl _, new_block _ _, by simp, by decide, rfl, rfl⟩⟩, fun q hq => ?_⟩
    simp only [List.mem_singleton] at hq
    subst hq
    exact World.ownsRow_nil _ _ _ _
  rintro W0 ⟨k0, ho0⟩
  rw [XhN.out] at k0 ho0 ⊢
  have hz0 := k0.size
  rw [XhN.out] at hz0
  have Xk0 := Lib.hid k0
  have Xho0 := Lib.hid ho0
  clear k0 ho0
  go_wp2_with fail
  go_loopw [3, 4] (fun x3 i' wr => ∃ i : Nat, i ≤ n ∧ i' = .int .i64 (i : Int) ∧ Keep (fun b => b < N) w wr ∧ OrdOwn N wr x3 (lvlO n i)) (fun _ i _ => n - (intOf i).toNat)
  case atStart => exact ⟨0, by omega, rfl, Xk0.out, Xho0.out⟩
  case round =>
    obtain ⟨wi, rfl⟩ : ∃ x, x = wr := ⟨_, rfl⟩
    obtain ⟨i, hi, rfl, hK, hO⟩ := hrel
    have hsz := hK.size
    rw [XhN.out] at hsz
    by_cases hlt : i < n
    · have hlt1 : (i : Int) < n := by omega
      obtain ⟨l, hl⟩ : ∃ l, lvlO n i = l := ⟨_, rfl⟩
      have heach := lvlO_each n i
      have hll : l.length ≤ 7776 := by
        rw [← hl]
        exact Nat.le_trans (Xhlen.out i (by omega)) (Xhpow.out i (by omega))
      rw [hl] at hO heach
      have hnx : lvlO n (i + 1) = l.flatMap fun o => extO o n := by rw [← hl]; rfl
      obtain ⟨al, cl, rfl⟩ := hO.form
      obtain ⟨B, hB⟩ : ∃ B, wi.heap.size = B := ⟨_, rfl⟩
      have hBN : N ≤ B := by omega
      clear hsz
      have XhK := Lib.hid hK
      have XhO := Lib.hid hO
      have Xheach := Lib.hid heach
      have Xhnx := Lib.hid hnx
      have Xhl := Lib.hid hl
      have XhB := Lib.hid hB
      clear hK hO heach hnx hl hB
      go_wp2_with fail
      go_loopw [5, 6] (fun x5 k' wq => ∃ k : Nat, k ≤ l.length ∧ k' = .int .i64 (k : Int) ∧ Keep (fun b => b < B) wi wq ∧ OrdOwn B wq x5 ((l.take k).flatMap fun o => extO o n) ∧ B ≤ wq.heap.size) (fun _ k _ => l.length - (intOf k).toNat)
      case atStart => exact ⟨0, by omega, rfl, Keep.refl _ _, OrdOwn.nil _ _, by rw [XhB.out]; exact Nat.le_refl _⟩
      case round =>
        obtain ⟨wq, rfl⟩ : ∃ x, x = wr := ⟨_, rfl⟩
        obtain ⟨k, hk, rfl, hKq, hOq, hBq⟩ := hrel
        by_cases hltk : k < l.length
        · have hltk1 : (k : Int) < l.length := by omega
          have hk0 : (0 : Int) ≤ k := by omega
          obtain ⟨o, ho⟩ : ∃ o, l[k]? = some o := ⟨_, List.getElem?_eq_getElem hltk⟩
          have hol : o.length ≤ i := Nat.le_of_eq (Xheach.out o (List.mem_of_getElem? ho))
          have hml : ((l.take k).flatMap fun o => extO o n).length ≤ k * n := by
            have := flatO_len (l.take k) n
            rwa [List.length_take, Nat.min_eq_left hk] at this
          have hkn : k * n ≤ 46656 := by
            have := Nat.mul_le_mul (show k ≤ 7776 by omega) h6
            omega
          have hfl := take_flat l n k ho
          obtain ⟨b, vo, rfl, hcb, hbl, hbN, hvo⟩ := XhO.out.at rfl ho
          have hbB : b < B := by rw [← XhB.out]; exact hbl
          obtain ⟨m0, hm0⟩ : ∃ m, (l.take k).flatMap (fun o => extO o n) = m := ⟨_, rfl⟩
          rw [hm0] at hml hOq hfl
          obtain ⟨ao, co, rfl⟩ := own_form hvo
          have hvoB : ∀ g, Value.ownBlock (.slice ao o.length co) = some g → g < B := fun g hg => by rw [← XhB.out]; exact (World.ownsRow.lt hvo g hg).2
          have XhKq := Lib.hid hKq
          have XhOq := Lib.hid hOq
          have Xhfl := Lib.hid hfl
          have Xhvo := Lib.hid hvo
          have Xhm0 := Lib.hid hm0
          have Xho := Lib.hid ho
          have XhvoB := Lib.hid hvoB
          have Xhcb := Lib.hid hcb
          clear hKq hOq hfl hvo hm0 ho hvoB hcb
          go_wp2_with fail
          go_loopw [5, 7] (fun x5 j' ws => ∃ j : Nat, j ≤ n ∧ j' = .int .i64 (j : Int) ∧ Keep (fun b => b < B) wi ws ∧ OrdOwn B ws x5 (m0 ++ extO o j) ∧ B ≤ ws.heap.size) (fun _ j _ => n - (intOf j).toNat)
          case atStart => exact ⟨0, by omega, rfl, XhKq.out, by rw [show extO o 0 = [] from rfl, List.append_nil]; exact XhOq.out, hBq⟩
          case round =>
            obtain ⟨ws, rfl⟩ : ∃ x, x = wr := ⟨_, rfl⟩
            obtain ⟨j, hj, rfl, hKs, hOs, hBs⟩ := hrel
            by_cases hltj : j < n
            · have hltj1 : (j : Int) < n := by omega
              have hv := own_kept Xhvo.out hKs XhvoB.out
              have hc := hKs.cell Xhcb.out hbB
              have hbs : b < ws.heap.size := by omega
              have hsrc := own_src hv
              have hcell : ∀ q x, o[q]? = some x → ∃ g, ao = some ⟨g, 0, none⟩ ∧ ws.cell? ⟨g, q, none⟩ = some (.int .i64 x) ∧ g < ws.heap.size := fun q x hx => by
                rcases id hv.2 with ⟨h1, h2⟩ | ⟨g, cap, cur, h1, hb, hg, hnc, _⟩
                · have := (List.getElem?_eq_some_iff.1 hx).1
                  rw [h2] at this
                  omega
                · cases h1
                  refine ⟨g, rfl, ?_, heap_lt hg⟩
                  have := hv.cells (g := g) rfl q (.int .i64 x) (by rw [List.getElem?_map, hx]; rfl)
                  rwa [show ((⟨g, 0, none⟩ : Addr).add q) = ⟨g, q, none⟩ from by unfold Addr.add; split <;> simp_all] at this
              have hxs := extO_succ o j
              have XhKs := Lib.hid hKs
              have XhOs := Lib.hid hOs
              have Xhv := Lib.hid hv
              have Xhsrc := Lib.hid hsrc
              have Xhcell := Lib.hid hcell
              have Xhxs := Lib.hid hxs
              clear hKs hOs hv hsrc hcell hxs
              go_wp2_with fail
              go_loopw [8, 9] (fun x8 q' wt => ∃ q : Nat, q ≤ o.length ∧ q' = .int .i64 (q : Int) ∧ x8 = .bool ((o.take q).contains (j : Int)) ∧ wt = ws) (fun _ q _ => o.length - (intOf q).toNat)
              case atStart => exact ⟨0, by omega, rfl, rfl, rfl⟩
              case round =>
                obtain ⟨q, hq, rfl, rfl, rfl⟩ := hrel
                by_cases hltq : q < o.length
                · have hltq1 : (q : Int) < o.length := by omega
                  have hq0 : (0 : Int) ≤ q := by omega
                  obtain ⟨x, hx⟩ : ∃ x, o[q]? = some x := ⟨_, List.getElem?_eq_getElem hltq⟩
                  obtain ⟨g, rfl, hcg, hgl⟩ := Xhcell.out q x hx
                  have htk : (o.take (q + 1)).contains (j : Int) = ((o.take q).contains (j : Int) || (x == (j : Int))) := by
                    rw [List.take_add_one, hx]
                    exact contains_snoc _ _ _
                  obtain ⟨hb, hhb⟩ : ∃ hb, (o.take q).contains (j : Int) = hb := ⟨_, rfl⟩
                  rw [hhb] at htk ⊢
                  clear hx hhb
                  have Xhtk := Lib.hid htk
                  clear htk
                  cases hb
                  · obtain ⟨eb, heb⟩ : ∃ eb, (x == (j : Int)) = eb := ⟨_, rfl⟩
                    rw [heb] at Xhtk
                    cases eb
                    all_goals
                      go_wp2_with fail
                      go_roundw
                      case rel => exact ⟨q + 1, by omega, by go_num, by rw [Xhtk.out]; rfl, trivial⟩
                      case measure => simp [intOf]; omega
                  · go_wp2_with fail
                    go_roundw
                    case rel => exact ⟨q + 1, by omega, by go_num, by rw [Xhtk.out]; rfl, trivial⟩
                    case measure => simp [intOf]; omega
                · obtain rfl : q = o.length := by omega
                  rw [List.take_length]
                  obtain ⟨hb, hhb⟩ : ∃ hb, o.contains (j : Int) = hb := ⟨_, rfl⟩
                  rw [hhb] at Xhxs ⊢
                  cases hb
                  · have hrow : m0 ++ extO o (j + 1) = (m0 ++ extO o j) ++ [o ++ [(j : Int)]] := by rw [Xhxs.out]; simp
                    have hml2 : (m0 ++ extO o j).length ≤ 50000 := by
                      rw [List.length_append]
                      have := extO_len o j
                      omega
                    obtain ⟨v1, W1, hr1, ho1, hg1, hk1⟩ := appA (P := Try.prog) el_ints 61 (base := wr.heap.size) (World.ownsRow_nil wr wr.heap.size 3 1) ao o.length co (o.map (.int .i64)) (by simp) Xhsrc.out.1 Xhsrc.out.2 (by simp [Value.oneCell']) (by omega) (Nat.le_refl _)
                    have z1 := hk1.size
                    have k1 : Keep (fun b => b < wr.heap.size) wr W1 := hk1.mono fun b _ h e => by
                      rcases hg1 b e with h1 | h1
                      · cases h1
                      · omega
                    rw [Nat.zero_add, List.nil_append] at ho1
                    obtain ⟨v2, W2, hr2, ho2, hk2, g2, c2, hv2, hg2, hl2⟩ := app1 (P := Try.prog) el_ints 61 ho1 [.int .i64 (j : Int)] rfl (by simp [Value.oneCell']) (by omega) z1
                    have z2 := hk2.size
                    have k2 : Keep (fun b => b < wr.heap.size) W1 W2 := hk2.mono fun b _ h e => by
                      have := (World.ownsRow.lt ho1 b e.symm).1
                      omega
                    have hO2 := XhOs.out.keep (k1.trans k2) (fun b _ h => h)
                    obtain ⟨ax, cx, rfl⟩ := XhOs.out.form
                    have ho2' : W2.ownsRow B 3 1 v2 (o ++ [(j : Int)]).length ((o ++ [(j : Int)]).map (.int .i64)) := by
                      rw [List.length_append, List.map_append]
                      exact ho2.mono hBs
                    obtain ⟨v3, W3, hr3, hO3, hk3⟩ := hO2.snoc (o ++ [(j : Int)]) v2 ho2' (by omega) (by omega)
                    have k3 : Keep (fun b => b < B) W2 W3 := hk3.mono fun b _ h e => by
                      have := (hO2.lo e.symm).1
                      omega
                    have kk : Keep (fun b => b < B) wi W3 := ((XhKs.out.trans (k1.mono fun b _ h => by omega)).trans (k2.mono fun b _ h => by omega)).trans k3
                    have z3 := k3.size
                    obtain ⟨mm, hmm⟩ : ∃ mm, (m0 ++ extO o j).length = mm := ⟨_, rfl⟩
                    rw [hmm] at hr3 ⊢
                    obtain ⟨a1, c1, rfl⟩ := own_form ho1
                    obtain ⟨a3, c3, rfl⟩ := hO3.form
                    subst hv2
                    clear ho1 hg1 hk1 k1 ho2 hk2 k2 hO2 ho2' hk3 k3
                    obtain ⟨nn, hnn⟩ : ∃ nn, (m0 ++ extO o j ++ [o ++ [(j : Int)]]).length = nn := ⟨_, rfl⟩
                    rw [hnn] at hr3 hO3
                    have Xhr1 := Lib.hid hr1
                    have Xhr2 := Lib.hid hr2
                    have Xhr3 := Lib.hid hr3
                    have XhO3 := Lib.hid hO3
                    have Xkk := Lib.hid kk
                    have Xhrow := Lib.hid hrow
                    have Xhmm := Lib.hid hmm
                    have Xhnn := Lib.hid hnn
                    clear hr1 hr2 hr3 hO3 kk hrow hmm hnn
                    go_wp2_with (first
                      | (at_builtin; refine go_app (v := .slice none 0 0) (u := .slice ao o.length co) (v' := .slice a1 o.length c1) (w' := W1) rfl (.const (.slice none 0 0)) (.tmp 54) 61 rfl rfl rfl Xhr1.out ?_)
                      | (at_builtin; refine go_app (v := .slice a1 o.length c1) (u := .slice (some ⟨W1.heap.size, 0, none⟩) 1 1) (v' := .slice (some ⟨g2, 0, none⟩) (o.length + 1) c2) (w' := W2) rfl (.tmp 55) (.tmp 57) 61 rfl rfl rfl Xhr2.out ?_)
                      | (at_builtin; refine go_app (v := .slice ax mm cx) (u := .slice (some ⟨W2.heap.size, 0, none⟩) 1 1) (v' := .slice a3 nn c3) (w' := W3) rfl (.tmp 50) (.tmp 59) 110 rfl rfl rfl Xhr3.out ?_))
                    go_roundw
                    case rel => exact ⟨j + 1, by omega, by go_num, Xkk.out, by rw [Xhrow.out]; exact XhO3.out, by omega⟩
                    case measure => simp [intOf]; omega
                  · have hrow : m0 ++ extO o (j + 1) = m0 ++ extO o j := by rw [Xhxs.out]; simp
                    have Xhrow := Lib.hid hrow
                    clear hrow
                    go_wp2_with fail
                    go_roundw
                    case rel => exact ⟨j + 1, by omega, by go_num, XhKs.out, by rw [Xhrow.out]; exact XhOs.out, hBs⟩
                    case measure => simp [intOf]; omega
            · obtain rfl : j = n := by omega
              have XhKs := Lib.hid hKs
              have XhOs := Lib.hid hOs
              clear hKs hOs
              go_wp2_with fail
              go_roundw
              case rel => exact ⟨k + 1, by omega, by go_num, XhKs.out, by rw [Xhfl.out]; exact XhOs.out, hBs⟩
              case measure => simp [intOf]; omega
        · obtain rfl : k = l.length := by omega
          rw [List.take_length] at hOq
          have XhKq := Lib.hid hKq
          have XhOq := Lib.hid hOq
          clear hKq hOq
          go_wp2_with fail
          go_roundw
          case rel => exact ⟨i + 1, by omega, by go_num, XhK.out.trans (XhKq.out.mono fun b hb h => by have := XhN.out; omega), by rw [Xhnx.out]; exact XhOq.out.mono hBN⟩
          case measure => simp [intOf]; omega
    · obtain rfl : i = n := by omega
      obtain ⟨ax, cx, rfl⟩ := hO.form
      have XhK := Lib.hid hK
      have XhO := Lib.hid hO
      clear hK hO
      go_wp2_with fail
      refine bodyPost_ret (v := .slice ax (lvlO i i).length cx) (by simp [results, Try.results61, go_sem]) rfl ?_
      rw [XhN.out]
      exact ⟨_, rfl, XhO.out, XhK.out⟩
end Go.Proofs
