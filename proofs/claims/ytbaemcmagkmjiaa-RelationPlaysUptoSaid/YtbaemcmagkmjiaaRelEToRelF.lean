/- Layer 4, the reference's relation: Match. -/
import Derived.Test.YtbaemcmagkmjiaaProg
import Derived.Test.YtbaemcmagkmjiaaRelBToRelD
import Derived.Test.YtbaemcmagkmjiaaOwnToRowC
namespace Go.Proofs
open Go.RowKit Go.Ink
set_option linter.unusedVariables false
set_option linter.unusedSimpArgs false
attribute [local go_sem] Oper.semAt_some

/-- the places of the tuples that have the key, in a stretch -/
def hitAt (ts : List (List Int)) (cols key : List Int) (lo hi : Int) (i : Nat) : Bool := decide (lo ≤ (i : Int)) && decide ((i : Int) < hi) && keyedD (ts.getD i []) cols key
def matchD (n : Nat) (ts : List (List Int)) (cols key : List Int) (lo hi : Int) : List Nat :=
  if (rowD n cols && decide (key.length = cols.length)) = true then (List.range ts.length).filter (hitAt ts cols key lo hi) else []
theorem filter_range (p : Nat → Bool) (k : Nat) : (List.range (k + 1)).filter p = (List.range k).filter p ++ if p k = true then [k] else [] := by
  rw [List.range_succ, List.filter_append, List.filter_cons, List.filter_nil]
theorem matchD_len (n : Nat) (ts : List (List Int)) (cols key : List Int) (lo hi : Int) : (matchD n ts cols key lo hi).length ≤ ts.length := by
  unfold matchD
  split
  · refine Nat.le_trans (List.length_filter_le _ _) ?_
    simp
  · simp

set_option maxRecDepth 100000 in
theorem refMatch_nil (vc vk : Value) (lo hi : Int) (w : World) : Calls Try.prog 9 #[.pointer none, vc, vk, .int .i64 lo, .int .i64 hi] w fun e w' => e = .returned (.slice none 0 0) ∧ w' = w := by
  go_enter Try.func9, Try.ntmps9
  go_wp2
  go_ret
  exact ⟨rfl, rfl⟩

set_option maxRecDepth 100000 in
set_option maxHeartbeats 1000000 in
theorem refMatch_any {w : World} {B n0 n : Nat} {ts : List (List Int)} {vL : Value} (h : RefAt w B n0 n ts vL) (hts : ∀ t, t ∈ ts → t.length = n) (m : Nat) (vc vk : Value) (cols key : List Int) (lo hi : Int) (hc : IntsIn m w vc cols) (hk : IntsIn m w vk key) (hm : m ≤ w.heap.size) :
    Calls Try.prog 9 #[.pointer (some ⟨B, 0, none⟩), vc, vk, .int .i64 lo, .int .i64 hi] w fun e w' => ∃ v, e = .returned v ∧ Keep (fun k => k < w.heap.size) w w' ∧
      w'.ownsRow w.heap.size 3 1 v (matchD n ts cols key lo hi).length ((matchD n ts cols key lo hi).map fun i : Nat => Value.int .i64 (i : Int)) := by
  obtain ⟨ac, cc, rfl, hlc, hcc, hec⟩ := id hc
  obtain ⟨ak, ck, rfl, hlk, hck, hek⟩ := id hk
  obtain ⟨aL, cL, rfl, hlL, hcL, heL⟩ := id h.l
  have hB := heap_lt h.box
  have hn0 := h.lw
  clear hec hek
  have Xh := Lib.hid h
  have Xhc := Lib.hid hc
  have Xhk := Lib.hid hk
  have XheL := Lib.hid heL
  have Xhts := Lib.hid hts
  clear h hc hk heL hts
  go_enter Try.func9, Try.ntmps9
  go_wp2_with fail
  refine (refRow_any Xh.out m _ cols Xhc.out hm).mono ?_
  rintro e W1 ⟨rfl, k1⟩
  have z1 := k1.size
  have hr1 : RefAt W1 B n0 n ts (.slice aL ts.length cL) := Xh.out.keep (m := w.heap.size) (k1.mono fun _ _ _ => trivial) hn0 hB
  have c1 := cells_of_block hr1.box 1 _ rfl
  simp only [Nat.zero_add] at c1
  have hB1 : B < W1.heap.size := by omega
  cases hrow : rowD n cols with
  | false =>
    have hans : matchD n ts cols key lo hi = [] := by unfold matchD; rw [hrow]; rfl
    clear hrow
    have Xk1 := Lib.hid k1
    have Xhr1 := Lib.hid hr1
    have Xhans := Lib.hid hans
    clear k1 hr1 hans
    go_wp2_with fail
    go_ret
    exact ⟨_, rfl, Xk1.out.mono fun _ _ _ => trivial, by rw [Xhans.out]; exact World.ownsRow_nil _ _ _ _⟩
  | true =>
    by_cases hlen : key.length = cols.length
    · have hl1 : ((key.length : Int) != cols.length) = false := by simp [hlen]
      have hans : matchD n ts cols key lo hi = (List.range ts.length).filter (hitAt ts cols key lo hi) := by unfold matchD; rw [hrow, decide_eq_true hlen]; rfl
      have hin := rowD_at hrow
      clear hrow
      have Xk1 := Lib.hid k1
      have Xhr1 := Lib.hid hr1
      have Xhans := Lib.hid hans
      have Xhlen := Lib.hid hlen
      have Xhin := Lib.hid hin
      clear k1 hr1 hans hlen hin
      go_wp2_with fail
      go_loopw [11, 12] (fun v i wr => ∃ k : Nat, k ≤ ts.length ∧ i = .int .i64 k ∧ Keep (fun k => k < w.heap.size) w wr ∧ wr.ownsRow w.heap.size 3 1 v ((List.range k).filter (hitAt ts cols key lo hi)).length (((List.range k).filter (hitAt ts cols key lo hi)).map fun i : Nat => Value.int .i64 (i : Int))) (fun _ i _ => ts.length - (intOf i).toNat)
      case atStart => exact ⟨0, by omega, rfl, Xk1.out.mono fun _ _ _ => trivial, World.ownsRow_nil _ _ _ _⟩
      case round =>
        obtain ⟨k, hk, rfl, hK, hO⟩ := hrel
        have hszk := hK.size
        have hr2 : RefAt wr B n0 n ts (.slice aL ts.length cL) := Xh.out.keep hK hn0 hB
        have d1 := cells_of_block hr2.box 1 _ rfl
        simp only [Nat.zero_add] at d1
        have hBr : B < wr.heap.size := by omega
        clear c1
        by_cases hlt : k < ts.length
        · obtain ⟨x, hx⟩ : ∃ x, ts[k]? = some x := ⟨_, List.getElem?_eq_getElem hlt⟩
          have hxl := Xhts.out x (List.mem_of_getElem? hx)
          have hxd : ts.getD k [] = x := by simp [List.getD, hx]
          obtain ⟨b, o, rfl, hb, sv, hsv, hiv⟩ := XheL.out k x hx
          have f0 := hK.cell hsv (show b < w.heap.size by omega)
          simp only [Nat.mul_one] at f0
          have hb1 : b < wr.heap.size := by omega
          have hlt1 : (k : Int) < ts.length := by omega
          have hk0 : (0 : Int) ≤ k := by omega
          have hfr := filter_range (hitAt ts cols key lo hi) k
          have hlen2 : ((List.range k).filter (hitAt ts cols key lo hi)).length ≤ k := by
            refine Nat.le_trans (List.length_filter_le _ _) ?_
            simp
          have hhit : hitAt ts cols key lo hi k = (decide (lo ≤ (k : Int)) && decide ((k : Int) < hi) && keyedD x cols key) := by unfold hitAt; rw [hxd]
          obtain ⟨asv, csv, rfl, _⟩ := id hiv
          have hiv2 := ints_wider (ints_stay hiv hK hn0) (show n0 ≤ wr.heap.size by omega)
          have hc2 := ints_wider (ints_stay Xhc.out hK hm) (show m ≤ wr.heap.size by omega)
          have hk2 := ints_wider (ints_stay Xhk.out hK hm) (show m ≤ wr.heap.size by omega)
          obtain ⟨fs, hfs⟩ : ∃ fs, (List.range k).filter (hitAt ts cols key lo hi) = fs := ⟨_, rfl⟩
          rw [hfs] at hO hfr hlen2
          clear hsv hiv hx hxd
          by_cases h1 : lo ≤ (k : Int)
          · by_cases h2 : (k : Int) < hi
            · have e1 : decide (lo ≤ (k : Int)) = true := by simpa using h1
              have e2 : decide ((k : Int) < hi) = true := by simpa using h2
              rw [e1, e2, Bool.true_and, Bool.true_and] at hhit
              have XhK := Lib.hid hK
              have XhO := Lib.hid hO
              have Xhiv2 := Lib.hid hiv2
              have Xhc2 := Lib.hid hc2
              have Xhk2 := Lib.hid hk2
              have Xhfr := Lib.hid hfr
              have Xhhit := Lib.hid hhit
              have Xhfs := Lib.hid hfs
              have Xhxl := Lib.hid hxl
              have Xhr2 := Lib.hid hr2
              clear hK hO hiv2 hc2 hk2 hfr hhit hfs hxl hr2
              go_wp2_with fail
              refine (keyed_any wr.heap.size _ _ _ x cols key wr Xhiv2.out Xhc2.out Xhk2.out (Nat.le_refl _) Xhlen.out (fun c hc => by rw [Xhxl.out]; exact Xhin.out c hc)).mono ?_
              rintro e W3 ⟨rfl, k3⟩
              have hK3 := XhK.out.trans (k3.mono fun _ _ _ => trivial)
              have hO3 := own_kept XhO.out k3 (fun _ _ => trivial)
              have z3 := k3.size
              clear k3 f0 d1
              cases hky : keyedD x cols key with
              | true =>
                have hfr2 := Xhfr.out
                rw [Xhhit.out, hky, if_pos rfl] at hfr2
                obtain ⟨v', W4, hr4, ho4, hk4, g4, cap4, hv4, _, _⟩ := app1 el_int 23 hO3 [.int .i64 (k : Int)] rfl (by simp [Value.oneCell']) (by omega) (by omega)
                subst hv4
                have kW := hK3.trans (hk4.mono fun b _ h => own_not hO3 h)
                have ho5 : W4.ownsRow w.heap.size 3 1 (.slice (some ⟨g4, 0, none⟩) (fs.length + 1) cap4) ((List.range (k + 1)).filter (hitAt ts cols key lo hi)).length (((List.range (k + 1)).filter (hitAt ts cols key lo hi)).map fun i : Nat => Value.int .i64 (i : Int)) := by
                  rw [hfr2]
                  simpa using ho4
                clear hfr2 ho4 hk4 hky
                have XhK3 := Lib.hid hK3
                have XhO3 := Lib.hid hO3
                have Xhr4 := Lib.hid hr4
                have XkW := Lib.hid kW
                have Xho5 := Lib.hid ho5
                clear hK3 hO3 hr4 kW ho5
                go_wp2_with (at_builtin; refine go_app rfl _ _ _ rfl rfl rfl Xhr4.out ?_)
                go_roundw
                case rel => exact ⟨k + 1, by omega, by go_num, XkW.out, Xho5.out⟩
                case measure => simp [intOf]; omega
              | false =>
                have hfr2 := Xhfr.out
                rw [Xhhit.out, hky] at hfr2
                simp only [Bool.false_eq_true, if_false, List.append_nil] at hfr2
                clear hky
                have XhK3 := Lib.hid hK3
                have XhO3 := Lib.hid hO3
                have Xhfr2 := Lib.hid hfr2
                clear hK3 hO3 hfr2
                go_wp2_with fail
                go_roundw
                case rel => exact ⟨k + 1, by omega, by go_num, XhK3.out, by rw [Xhfr2.out]; exact XhO3.out⟩
                case measure => simp [intOf]; omega
            · have e2 : decide ((k : Int) < hi) = false := by simpa using h2
              have e1 : decide (lo ≤ (k : Int)) = true := by simpa using h1
              rw [hhit, e2, Bool.and_false, Bool.false_and] at hfr
              simp only [Bool.false_eq_true, if_false, List.append_nil] at hfr
              clear hhit
              have XhK := Lib.hid hK
              have XhO := Lib.hid hO
              have Xhiv2 := Lib.hid hiv2
              have Xhc2 := Lib.hid hc2
              have Xhk2 := Lib.hid hk2
              have Xhfr := Lib.hid hfr
              have Xhfs := Lib.hid hfs
              have Xhxl := Lib.hid hxl
              have Xhr2 := Lib.hid hr2
              clear hK hO hiv2 hc2 hk2 hfr hfs hxl hr2
              go_wp2_with fail
              go_roundw
              case rel => exact ⟨k + 1, by omega, by go_num, XhK.out, by rw [Xhfr.out]; exact XhO.out⟩
              case measure => simp [intOf]; omega
          · have e1 : decide (lo ≤ (k : Int)) = false := by simpa using h1
            rw [hhit, e1, Bool.false_and, Bool.false_and] at hfr
            simp only [Bool.false_eq_true, if_false, List.append_nil] at hfr
            clear hhit
            have XhK := Lib.hid hK
            have XhO := Lib.hid hO
            have Xhiv2 := Lib.hid hiv2
            have Xhc2 := Lib.hid hc2
            have Xhk2 := Lib.hid hk2
            have Xhfr := Lib.hid hfr
            have Xhfs := Lib.hid hfs
            have Xhxl := Lib.hid hxl
            have Xhr2 := Lib.hid hr2
            clear hK hO hiv2 hc2 hk2 hfr hfs hxl hr2
            go_wp2_with fail
            go_roundw
            case rel => exact ⟨k + 1, by omega, by go_num, XhK.out, by rw [Xhfr.out]; exact XhO.out⟩
            case measure => simp [intOf]; omega
        · obtain rfl : k = ts.length := by omega
          clear hr2
          have XhK := Lib.hid hK
          have XhO := Lib.hid hO
          clear hK hO
          go_wp2_with fail
          go_ret
          exact ⟨_, rfl, XhK.out, by rw [Xhans.out]; exact XhO.out⟩
    · have hl1 : ((key.length : Int) != cols.length) = true := by simp; omega
      have hans : matchD n ts cols key lo hi = [] := by unfold matchD; rw [decide_eq_false hlen, Bool.and_false]; rfl
      clear hrow hlen
      have Xk1 := Lib.hid k1
      have Xhr1 := Lib.hid hr1
      have Xhans := Lib.hid hans
      clear k1 hr1 hans
      go_wp2_with fail
      go_ret
      exact ⟨_, rfl, Xk1.out.mono fun _ _ _ => trivial, by rw [Xhans.out]; exact World.ownsRow_nil _ _ _ _⟩
end Go.Proofs

/- Layer 4, the reference's relation as its own memory: New, Add. -/
namespace Go.Proofs
open Go.RowKit Go.Ink
set_option linter.unusedVariables false
set_option linter.unusedSimpArgs false
attribute [local go_sem] Oper.semAt_some

/-- the elements of the reference's list: each a slice of its own numbers, in blocks of the footprint that the list's own row is not -/
def RowsIn (F : Nat → Prop) (w : World) (B : Nat) (vL : Value) (ts : List (List Int)) (svs : List Value) : Prop :=
  svs.length = ts.length ∧ ∀ (j : Nat) (t : List Int), ts[j]? = some t → ∃ a c, svs[j]? = some (.slice a t.length c) ∧ t.length ≤ 1073741824 ∧ (t.length ≤ c ∧ c ≤ maxLen) ∧
    ∀ (k : Nat) (x : Int), t[k]? = some x → ∃ b o, a = some ⟨b, o, none⟩ ∧ F b ∧ b ≠ B ∧ vL.ownBlock ≠ some b ∧ b < w.heap.size ∧ w.cell? ⟨b, o + k, none⟩ = some (.int .i64 x)
theorem RowsIn.keep {F : Nat → Prop} {w w' : World} {B : Nat} {vL : Value} {ts : List (List Int)} {svs : List Value} {C : Nat → Prop} (h : RowsIn F w B vL ts svs) (hK : Keep C w w') (hC : ∀ b, F b → b < w.heap.size → b ≠ B → vL.ownBlock ≠ some b → C b) : RowsIn F w' B vL ts svs := by
  refine ⟨h.1, fun j t ht => ?_⟩
  obtain ⟨a, c, h1, h2, h3, h4⟩ := h.2 j t ht
  refine ⟨a, c, h1, h2, h3, fun k x hk => ?_⟩
  obtain ⟨b, o, e1, e2, e3, e4, e5, e6⟩ := h4 k x hk
  exact ⟨b, o, e1, e2, e3, e4, Nat.lt_of_lt_of_le e5 hK.size, hK.cell e6 (hC b e2 e5 e3 e4)⟩

/-- the reference's relation in memory of its own -/
structure RefOwn (F : Nat → Prop) (w : World) (B n : Nat) (ts : List (List Int)) (vL : Value) (svs : List Value) : Prop where
  box : w.heap[B]? = some (.cells #[.int .i64 (n : Int), vL] 38 (0, 0))
  own : w.ownsRow 0 23 1 vL ts.length svs
  nb : vL.ownBlock ≠ some B
  fl : ∀ b, vL.ownBlock = some b → F b
  fb : F B
  rows : RowsIn F w B vL ts svs
theorem RefOwn.keep {F : Nat → Prop} {w w' : World} {B n : Nat} {ts : List (List Int)} {vL : Value} {svs : List Value} {C : Nat → Prop} (h : RefOwn F w B n ts vL svs) (hK : Keep C w w') (hC : ∀ b, F b → b < w.heap.size → C b) : RefOwn F w' B n ts vL svs :=
  ⟨hK.heap h.box (hC _ h.fb (heap_lt h.box)), own_kept h.own hK (fun b hb => hC b (h.fl b hb) (World.ownsRow.lt h.own b hb).2), h.nb, h.fl, h.fb, h.rows.keep hK (fun b hb hl _ _ => hC b hb hl)⟩
theorem RefOwn.lists {F : Nat → Prop} {w : World} {B n : Nat} {ts : List (List Int)} {vL : Value} {svs : List Value} (h : RefOwn F w B n ts vL svs) (hl : ts.length ≤ 1073741824) : RefAt w B w.heap.size n ts vL := by
  refine ⟨h.box, ?_, Nat.le_refl _⟩
  rcases h.own.2 with ⟨e1, e2⟩ | ⟨g, cap, cur, e1, e2, e3, e4, e5, _⟩
  · have : ts = [] := List.eq_nil_of_length_eq_zero e2
    subst this
    rw [e1]
    exact ⟨none, 0, rfl, by simp, by simp [maxLen], by simp⟩
  · subst e1
    refine ⟨_, cap, rfl, hl, ⟨e4, e5⟩, fun k t ht => ?_⟩
    obtain ⟨a, c, h1, h2, h3, h4⟩ := h.rows.2 k t ht
    refine ⟨g, 0, rfl, heap_lt e3, .slice a t.length c, ?_, a, c, rfl, h2, h3, fun j x hj => ?_⟩
    · have := own_elem h.own k _ h1
      simpa using this
    · obtain ⟨b, o, q1, _, _, _, q5, q6⟩ := h4 j x hj
      exact ⟨b, o, q1, q5, by simpa [IntE] using q6⟩

theorem el_list : ElemOf Try.prog 22 23 1 24 := elem_of (z := .slice none 0 0) (by kernel_rfl) (by kernel_rfl) rfl (by decide) (by decide)

set_option maxRecDepth 100000 in
theorem refNew_any (n : Nat) (hn : n ≤ 16) (w : World) : Calls Try.prog 24 #[.int .i64 n] w fun e w' => e = .returned (.tuple #[.pointer (some ⟨w.heap.size, 0, none⟩), .int .i64 0]) ∧ Keep (fun _ => True) w w' ∧ w'.heap.size = w.heap.size + 1 ∧
    RefOwn (fun b => b = w.heap.size) w' w.heap.size n [] (.slice none 0 0) [] := by
  have h1 : (0 : Int) ≤ n := by omega
  have h2 : (n : Int) ≤ 16 := by omega
  have h3 : ¬ ((n : Int) < 0) := by omega
  have h4 : ¬ ((16 : Int) < n) := by omega
  go_enter Try.func24, Try.ntmps24
  go_wp2
  go_ret2
  refine ⟨rfl, Keep.alloc _ _ _, by simp, new_block _ _, World.ownsRow_nil _ _ _ _, by simp [Value.ownBlock], fun b hb => by simp [Value.ownBlock] at hb, rfl, rfl, fun j t ht => by simp at ht⟩
set_option maxRecDepth 100000 in
theorem refNew_bad (n : Int) (hn : n < 0 ∨ 16 < n) (w : World) : Calls Try.prog 24 #[.int .i64 n] w fun e w' => e = .returned (.tuple #[.pointer none, .int .i64 2]) ∧ w' = w := by
  go_enter Try.func24, Try.ntmps24
  rcases hn with h | h
  · go_wp2
    go_ret2
    exact ⟨rfl, rfl⟩
  · have h3 : ¬ (n < 0) := by omega
    go_wp2
    go_ret2
    exact ⟨rfl, rfl⟩
end Go.Proofs
