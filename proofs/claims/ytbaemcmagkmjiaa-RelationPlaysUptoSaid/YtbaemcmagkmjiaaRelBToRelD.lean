/- Layer 4, the reference's relation: Len, tuple, Place, keyed. -/
import Derived.Test.YtbaemcmagkmjiaaProg
import Derived.Test.YtbaemcmagkmjiaaMapsToRelA
namespace Go.Proofs
open Go.RowKit Go.Ink
set_option linter.unusedVariables false
set_option linter.unusedSimpArgs false
attribute [local go_sem] Oper.semAt_some

/-- a list of numbers in one cell -/
def ListE (n : Nat) (w : World) (b o : Nat) (t : List Int) : Prop := ∃ sv, w.cell? ⟨b, o, none⟩ = some sv ∧ IntsIn n w sv t
abbrev ListsIn (n : Nat) (w : World) (v : Value) (ts : List (List Int)) : Prop := SliceIn n w 1 (ListE n) v ts
theorem lists_keep {n : Nat} {w w' : World} {v : Value} {ts : List (List Int)} (h : ListsIn n w v ts) {m : Nat} (hK : Keep (fun k => k < m) w w') (hm : n ≤ m) : ListsIn n w' v ts :=
  h.mono fun _ _ _ hb ⟨sv, h1, h2⟩ => ⟨sv, hK.cell h1 (Nat.lt_of_lt_of_le hb hm), ints_stay h2 hK hm⟩
theorem lists_wider {n n' : Nat} {w : World} {v : Value} {ts : List (List Int)} (h : ListsIn n w v ts) (hn : n ≤ n') : ListsIn n' w v ts :=
  SliceIn.wider h hn fun _ _ _ _ ⟨sv, h1, h2⟩ => ⟨sv, h1, ints_wider h2 hn⟩

/-- the reference's relation, as it is read -/
structure RefAt (w : World) (B n0 : Nat) (n : Nat) (ts : List (List Int)) (vL : Value) : Prop where
  box : w.heap[B]? = some (.cells #[.int .i64 (n : Int), vL] 38 (0, 0))
  l : ListsIn n0 w vL ts
  lw : n0 ≤ w.heap.size
theorem RefAt.keep {w w' : World} {B n0 n : Nat} {ts : List (List Int)} {vL : Value} (h : RefAt w B n0 n ts vL) {m : Nat} (hK : Keep (fun k => k < m) w w') (hm : n0 ≤ m) (hB : B < m) : RefAt w' B n0 n ts vL :=
  ⟨hK.heap h.box hB, lists_keep h.l hK hm, Nat.le_trans h.lw hK.size⟩

set_option maxRecDepth 100000 in
theorem refLen_nil (w : World) : Calls Try.prog 8 #[.pointer none] w fun e w' => e = .returned (.int .i64 0) ∧ w' = w := by
  go_enter Try.func8, Try.ntmps8
  go_wp2
  go_ret
  exact ⟨rfl, rfl⟩
set_option maxRecDepth 100000 in
theorem refLen_any {w : World} {B n0 n : Nat} {ts : List (List Int)} {vL : Value} (h : RefAt w B n0 n ts vL) : Calls Try.prog 8 #[.pointer (some ⟨B, 0, none⟩)] w fun e w' => e = .returned (.int .i64 ts.length) ∧ w' = w := by
  obtain ⟨a, c, rfl, hl, hc, he⟩ := id h.l
  have c1 := cells_of_block h.box 1 _ rfl
  have hB := heap_lt h.box
  simp only [Nat.zero_add] at c1
  clear he
  have Xh := Lib.hid h
  clear h
  go_enter Try.func8, Try.ntmps8
  go_wp2
  go_ret
  exact ⟨rfl, rfl⟩

/-- is it a tuple of a relation of n columns? -/
def rightD (n : Nat) (t : List Int) : Bool := decide (t.length = n) && t.all fun x => decide (0 ≤ x)
set_option maxRecDepth 100000 in
theorem refTuple_any {w : World} {B n0 n : Nat} {ts : List (List Int)} {vL : Value} (h : RefAt w B n0 n ts vL) (m : Nat) (v : Value) (t : List Int) (hs : IntsIn m w v t) (hm : m ≤ w.heap.size) :
    Calls Try.prog 50 #[.pointer (some ⟨B, 0, none⟩), v] w fun e w' => e = .returned (.bool (rightD n t)) ∧ Keep (fun _ => True) w w' := by
  obtain ⟨a, c, rfl, hl, hc, he⟩ := id hs
  have c0 := cells_of_block h.box 0 _ rfl
  have hB := heap_lt h.box
  simp only [Nat.zero_add] at c0
  have Xh := Lib.hid h
  have Xhs := Lib.hid hs
  have Xhe := Lib.hid he
  clear h hs he
  go_enter Try.func50, Try.ntmps50
  by_cases hlen : t.length = n
  · have hl1 : ((t.length : Int) != n) = false := by simp [hlen]
    have hans : rightD n t = t.all fun x => decide (0 ≤ x) := by simp [rightD, hlen]
    have Xhlen := Lib.hid hlen
    have Xhans := Lib.hid hans
    clear hlen hans
    go_wp2_with fail
    go_loopw [5] (fun i wr => ∃ k : Nat, k ≤ t.length ∧ i = .int .i64 k ∧ Keep (fun _ => True) w wr ∧ (t.take k).all (fun x => decide (0 ≤ x)) = true) (fun i _ => t.length - (intOf i).toNat)
    case atStart => exact ⟨0, by omega, rfl, Keep.refl _ _, rfl⟩
    case round =>
      obtain ⟨k, hk, rfl, hK, hall⟩ := hrel
      have hszk := hK.size
      by_cases hlt : k < t.length
      · obtain ⟨x, hx⟩ : ∃ x, t[k]? = some x := ⟨_, List.getElem?_eq_getElem hlt⟩
        obtain ⟨b, o, rfl, hb, hxa⟩ := Xhe.out k x hx
        have hxa := hK.cell hxa trivial
        simp only [Nat.mul_one] at hxa
        have hb1 : b < wr.heap.size := by omega
        have hlt1 : (k : Int) < t.length := by omega
        have hk0 : (0 : Int) ≤ k := by omega
        by_cases hneg : x < 0
        · have hno : (t.all fun x => decide (0 ≤ x)) = false := by
            rw [Bool.eq_false_iff]
            intro h
            have := List.all_eq_true.1 h x (List.mem_of_getElem? hx)
            simp at this
            omega
          clear hall hx
          have Xhno := Lib.hid hno
          have XhK := Lib.hid hK
          clear hno hK
          go_wp2_with fail
          go_ret
          exact ⟨by rw [Xhans.out, Xhno.out]; try rfl, XhK.out⟩
        · have hall2 : (t.take (k + 1)).all (fun x => decide (0 ≤ x)) = true := by
            rw [List.take_add_one, hx, List.all_append, hall]
            simp; omega
          clear hall hx
          have Xhall2 := Lib.hid hall2
          have XhK := Lib.hid hK
          clear hall2 hK
          go_wp2_with fail
          go_roundw
          case rel => exact ⟨k + 1, by omega, by go_num, XhK.out, Xhall2.out⟩
          case measure => simp [intOf]; omega
      · obtain rfl : k = t.length := by omega
        rw [List.take_length] at hall
        have Xhall := Lib.hid hall
        have XhK := Lib.hid hK
        clear hall hK
        go_wp2_with fail
        go_ret
        exact ⟨by rw [Xhans.out, Xhall.out]; try rfl, XhK.out⟩
  · have hl1 : ((t.length : Int) != n) = true := by simp; omega
    have hans : rightD n t = false := by simp [rightD, hlen]
    clear hlen
    have Xhans := Lib.hid hans
    clear hans
    go_wp2_with fail
    go_ret
    exact ⟨by rw [Xhans.out]; try rfl, Keep.refl _ _⟩
end Go.Proofs

/- Layer 4, the reference's relation: Place, keyed. -/
namespace Go.Proofs
open Go.RowKit Go.Ink
set_option linter.unusedVariables false
set_option linter.unusedSimpArgs false
attribute [local go_sem] Oper.semAt_some

/-- where a tuple lies first -/
def placeD (ts : List (List Int)) (t : List Int) : Option Nat := (List.range ts.length).find? fun i => decide (ts[i]? = some t)
def placeV : Option Nat → Value
  | none => .tuple #[.int .i64 0, .bool false]
  | some i => .tuple #[.int .i64 i, .bool true]
theorem range_first2 (p : Nat → Bool) (i n : Nat) (h : ∀ j, j < i → p j = false) (hp : p i = true) (hi : i < n) : (List.range n).find? p = some i := by
  have e : n = (i + 1) + (n - (i + 1)) := by omega
  rw [e, List.range_add, List.find?_append, List.range_succ, List.find?_append]
  have h1 : (List.range i).find? p = none := List.find?_eq_none.2 fun j hj => by rw [h j (List.mem_range.1 hj)]; simp
  rw [h1]
  simp [hp]

set_option maxRecDepth 100000 in
theorem refPlace_any {w : World} {B n0 n : Nat} {ts : List (List Int)} {vL : Value} (h : RefAt w B n0 n ts vL) (m : Nat) (v : Value) (t : List Int) (hs : IntsIn m w v t) (hm : m ≤ w.heap.size) :
    Calls Try.prog 51 #[.pointer (some ⟨B, 0, none⟩), v] w fun e w' => e = .returned (placeV (placeD ts t)) ∧ Keep (fun _ => True) w w' := by
  obtain ⟨a, c, rfl, hl, hc, he⟩ := id hs
  obtain ⟨aL, cL, rfl, hlL, hcL, heL⟩ := id h.l
  have hB := heap_lt h.box
  have hn0 := h.lw
  clear he
  have Xh := Lib.hid h
  have Xhs := Lib.hid hs
  have XheL := Lib.hid heL
  clear h hs heL
  go_enter Try.func51, Try.ntmps51
  go_wp2_with fail
  go_loopw [6] (fun i wr => ∃ k : Nat, k ≤ ts.length ∧ i = .int .i64 k ∧ Keep (fun _ => True) w wr ∧ ∀ j, j < k → ts[j]? ≠ some t) (fun i _ => ts.length - (intOf i).toNat)
  case atStart => exact ⟨0, by omega, rfl, Keep.refl _ _, fun j hj => by omega⟩
  case round =>
    obtain ⟨k, hk, rfl, hK, hall⟩ := hrel
    have hszk := hK.size
    have hr : RefAt wr B n0 n ts (.slice aL ts.length cL) := Xh.out.keep (m := w.heap.size + 1) (hK.mono fun _ _ _ => trivial) (by omega) (by omega)
    have c1 := cells_of_block hr.box 1 _ rfl
    simp only [Nat.zero_add] at c1
    have hBr : B < wr.heap.size := by omega
    have Xhr := Lib.hid hr
    clear hr
    go_wp2_with fail
    refine (refLen_any Xhr.out).mono ?_
    rintro e w1 ⟨rfl, rfl⟩
    by_cases hlt : k < ts.length
    · obtain ⟨x, hx⟩ : ∃ x, ts[k]? = some x := ⟨_, List.getElem?_eq_getElem hlt⟩
      obtain ⟨b, o, rfl, hb, sv, hsv, hiv⟩ := XheL.out k x hx
      have f0 := hK.cell hsv trivial
      simp only [Nat.mul_one] at f0
      have hb1 : b < w1.heap.size := by omega
      have hlt1 : (k : Int) < ts.length := by omega
      have hk0 : (0 : Int) ≤ k := by omega
      have hiv2 := ints_wider (ints_stay (m := n0) hiv (hK.mono fun _ _ _ => trivial) (Nat.le_refl _)) (show n0 ≤ w1.heap.size by omega)
      have hs2 := ints_wider (ints_stay (m := m) Xhs.out (hK.mono fun _ _ _ => trivial) (Nat.le_refl _)) (show m ≤ w1.heap.size by omega)
      obtain ⟨asv, csv, rfl, _⟩ := id hiv
      clear hsv hiv
      have XhK := Lib.hid hK
      have Xhiv2 := Lib.hid hiv2
      have Xhs2 := Lib.hid hs2
      clear hK hiv2 hs2
      go_wp2_with fail
      refine (sameL_any w1.heap.size _ _ x t w1 Xhiv2.out Xhs2.out (Nat.le_refl _)).mono ?_
      rintro e w2 ⟨rfl, k2⟩
      have hK2 := XhK.out.trans k2
      clear k2 f0 c1
      by_cases hxt : x = t
      · have hans : placeD ts t = some k := range_first2 _ k _ (fun j hj => by simpa using hall j hj) (by rw [hx, hxt]; simp) hlt
        rw [decide_eq_true hxt]
        clear hall hx hxt
        have Xhans := Lib.hid hans
        have XhK2 := Lib.hid hK2
        clear hans hK2
        go_wp2_with fail
        go_ret2
        exact ⟨by rw [Xhans.out]; try rfl, XhK2.out⟩
      · rw [decide_eq_false hxt]
        have hall2 : ∀ j, j < k + 1 → ts[j]? ≠ some t := fun j hj => by
          rcases Nat.lt_succ_iff_lt_or_eq.1 hj with h | rfl
          · exact hall j h
          · rw [hx]; exact fun e => hxt (Option.some.inj e)
        clear hall hx hxt
        have Xhall2 := Lib.hid hall2
        have XhK2 := Lib.hid hK2
        clear hall2 hK2
        go_wp2_with fail
        go_roundw
        case rel => exact ⟨k + 1, by omega, by go_num, XhK2.out, Xhall2.out⟩
        case measure => simp [intOf]; omega
    · obtain rfl : k = ts.length := by omega
      have hans : placeD ts t = none := by
        unfold placeD
        rw [List.find?_eq_none]
        intro j hj
        have := hall j (List.mem_range.1 hj)
        simpa using this
      clear hall
      have Xhans := Lib.hid hans
      have XhK := Lib.hid hK
      clear hans hK
      go_wp2_with fail
      go_ret2
      exact ⟨by rw [Xhans.out]; try rfl, XhK.out⟩

/-- has a tuple the key in these columns? -/
def keyedD (t cols key : List Int) : Bool := (List.range cols.length).all fun j => decide (t[(cols.getD j 0).toNat]? = key[j]?)
set_option maxRecDepth 100000 in
theorem keyed_any (n : Nat) (vt vc vk : Value) (t cols key : List Int) (w : World) (ht : IntsIn n w vt t) (hc : IntsIn n w vc cols) (hk : IntsIn n w vk key) (hn : n ≤ w.heap.size) (hlk : key.length = cols.length) (hin : ∀ c, c ∈ cols → 0 ≤ c ∧ c < t.length) :
    Calls Try.prog 31 #[vt, vc, vk] w fun e w' => e = .returned (.bool (keyedD t cols key)) ∧ Keep (fun _ => True) w w' := by
  obtain ⟨at_, ct, rfl, hlt_, hct, het⟩ := id ht
  obtain ⟨ac, cc, rfl, hlc, hcc, hec⟩ := id hc
  obtain ⟨ak, ck, rfl, hlk_, hck, hek⟩ := id hk
  have Xht := Lib.hid ht
  have Xhc := Lib.hid hc
  have Xhk := Lib.hid hk
  have Xhet := Lib.hid het
  have Xhec := Lib.hid hec
  have Xhek := Lib.hid hek
  have Xhin := Lib.hid hin
  clear ht hc hk het hec hek hin
  have Xhlk := Lib.hid hlk
  go_enter Try.func31, Try.ntmps31
  go_wp2_with fail
  go_loopw [7] (fun i wr => ∃ k : Nat, k ≤ cols.length ∧ i = .int .i64 k ∧ Keep (fun _ => True) w wr ∧ ∀ j, j < k → t[(cols.getD j 0).toNat]? = key[j]?) (fun i _ => cols.length - (intOf i).toNat)
  case atStart => exact ⟨0, by omega, rfl, Keep.refl _ _, fun j hj => by omega⟩
  case round =>
    obtain ⟨k, hk, rfl, hK, hall⟩ := hrel
    have hszk := hK.size
    by_cases hlt : k < cols.length
    · obtain ⟨x, hx⟩ : ∃ x, cols[k]? = some x := ⟨_, List.getElem?_eq_getElem hlt⟩
      obtain ⟨hx0, hxl⟩ := Xhin.out x (List.mem_of_getElem? hx)
      obtain ⟨q, rfl⟩ : ∃ q : Nat, x = (q : Int) := ⟨x.toNat, by omega⟩
      obtain ⟨y, hy⟩ : ∃ y, t[q]? = some y := ⟨_, List.getElem?_eq_getElem (by omega)⟩
      obtain ⟨z, hz⟩ : ∃ z, key[k]? = some z := ⟨_, List.getElem?_eq_getElem (by omega)⟩
      obtain ⟨bc, oc, rfl, hbc, hxc⟩ := Xhec.out k _ hx
      obtain ⟨bt, ot, rfl, hbt, hxt⟩ := Xhet.out q y hy
      obtain ⟨bk, ok, rfl, hbk, hxk⟩ := Xhek.out k z hz
      have f1 := hK.cell hxc trivial
      have f2 := hK.cell hxt trivial
      have f3 := hK.cell hxk trivial
      simp only [Nat.mul_one] at f1 f2 f3
      have hb1 : bc < wr.heap.size := by omega
      have hb2 : bt < wr.heap.size := by omega
      have hb3 : bk < wr.heap.size := by omega
      have hlt1 : (k : Int) < cols.length := by omega
      have hlt2 : (k : Int) < key.length := by omega
      have hk0 : (0 : Int) ≤ k := by omega
      have hcd : (cols.getD k 0).toNat = q := by simp [List.getD, hx]
      clear hxc hxt hxk hlk
      by_cases hyz : y = z
      · have hne : (y != z) = false := by simp [hyz]
        have hall2 : ∀ j, j < k + 1 → t[(cols.getD j 0).toNat]? = key[j]? := fun j hj => by
          rcases Nat.lt_succ_iff_lt_or_eq.1 hj with h | rfl
          · exact hall j h
          · rw [hcd, hy, hz, hyz]
        clear hall hx hy hz hyz hcd
        have Xhall2 := Lib.hid hall2
        have XhK := Lib.hid hK
        clear hall2 hK
        go_wp2_with fail
        go_quiet (fail)
        go_wp2_with fail
        go_roundw
        case rel => exact ⟨k + 1, by omega, by go_num, XhK.out.trans (Keep.drewN' _ _ _), Xhall2.out⟩
        case measure => simp [intOf]; omega
      · have hne : (y != z) = true := by simp [hyz]
        have hno : keyedD t cols key = false := by
          rw [Bool.eq_false_iff]
          intro h
          have := List.all_eq_true.1 h k (List.mem_range.2 hlt)
          simp only [decide_eq_true_eq, hcd, hy, hz, Option.some.injEq] at this
          exact hyz this
        clear hall hx hy hz hyz hcd
        have Xhno := Lib.hid hno
        have XhK := Lib.hid hK
        clear hno hK
        go_wp2_with fail
        go_quiet (fail)
        go_wp2_with fail
        go_ret
        exact ⟨by rw [Xhno.out]; try rfl, XhK.out.trans (Keep.drewN' _ _ _)⟩
    · obtain rfl : k = cols.length := by omega
      have hyes : keyedD t cols key = true := List.all_eq_true.2 fun j hj => by simpa using hall j (List.mem_range.1 hj)
      clear hall hlk
      have Xhyes := Lib.hid hyes
      have XhK := Lib.hid hK
      clear hyes hK
      go_wp2_with fail
      go_ret
      exact ⟨by rw [Xhyes.out]; try rfl, XhK.out⟩
end Go.Proofs

/- Layer 4, the reference's relation: row. -/
namespace Go.Proofs
open Go.RowKit Go.Ink
set_option linter.unusedVariables false
set_option linter.unusedSimpArgs false
attribute [local go_sem] Oper.semAt_some

/-- are they a row of columns? -/
def okAt (n : Nat) (cols : List Int) (i : Nat) : Bool := decide (0 ≤ cols.getD i 0) && decide (cols.getD i 0 < n) && (i == 0 || decide (cols.getD (i - 1) 0 < cols.getD i 0))
def rowD (n : Nat) (cols : List Int) : Bool := (List.range cols.length).all (okAt n cols)
theorem rowD_at {n : Nat} {cols : List Int} (h : rowD n cols = true) : ∀ c, c ∈ cols → 0 ≤ c ∧ c < n := fun c hc => by
  obtain ⟨i, hi⟩ := List.mem_iff_getElem?.1 hc
  have := List.all_eq_true.1 h i (List.mem_range.2 (List.getElem?_eq_some_iff.1 hi).1)
  simp only [okAt, List.getD, hi, Option.getD_some, Bool.and_eq_true, decide_eq_true_eq] at this
  exact this.1

set_option maxRecDepth 100000 in
set_option maxHeartbeats 1000000 in
theorem refRow_any {w : World} {B n0 n : Nat} {ts : List (List Int)} {vL : Value} (h : RefAt w B n0 n ts vL) (m : Nat) (v : Value) (cols : List Int) (hs : IntsIn m w v cols) (hm : m ≤ w.heap.size) :
    Calls Try.prog 30 #[.pointer (some ⟨B, 0, none⟩), v] w fun e w' => e = .returned (.bool (rowD n cols)) ∧ Keep (fun _ => True) w w' := by
  obtain ⟨a, c, rfl, hl, hc, he⟩ := id hs
  have hB := heap_lt h.box
  have Xh := Lib.hid h
  have Xhs := Lib.hid hs
  have Xhe := Lib.hid he
  clear h hs he
  go_enter Try.func30, Try.ntmps30
  go_wp2_with fail
  go_loopw [5] (fun i wr => ∃ k : Nat, k ≤ cols.length ∧ i = .int .i64 k ∧ Keep (fun _ => True) w wr ∧ ∀ j, j < k → okAt n cols j = true) (fun i _ => cols.length - (intOf i).toNat)
  case atStart => exact ⟨0, by omega, rfl, Keep.refl _ _, fun j hj => by omega⟩
  case round =>
    obtain ⟨k, hk, rfl, hK, hall⟩ := hrel
    have hszk := hK.size
    have hbox := hK.heap Xh.out.box trivial
    have c0 := cells_of_block hbox 0 _ rfl
    simp only [Nat.zero_add] at c0
    have hBr : B < wr.heap.size := by omega
    clear hbox
    by_cases hlt : k < cols.length
    · obtain ⟨x, hx⟩ : ∃ x, cols[k]? = some x := ⟨_, List.getElem?_eq_getElem hlt⟩
      obtain ⟨b, o, rfl, hb, hxa⟩ := Xhe.out k x hx
      have f1 := hK.cell hxa trivial
      simp only [Nat.mul_one] at f1
      have hb1 : b < wr.heap.size := by omega
      have hlt1 : (k : Int) < cols.length := by omega
      have hk0 : (0 : Int) ≤ k := by omega
      have hxd : cols.getD k 0 = x := by simp [List.getD, hx]
      have hbad : okAt n cols k = false → rowD n cols = false := fun h => by
        rw [Bool.eq_false_iff]
        intro h'
        rw [List.all_eq_true.1 h' k (List.mem_range.2 hlt)] at h
        cases h
      have hgood : okAt n cols k = true → ∀ j, j < k + 1 → okAt n cols j = true := fun h j hj => by
        rcases Nat.lt_succ_iff_lt_or_eq.1 hj with h' | rfl
        · exact hall j h'
        · exact h
      clear hall hxa
      by_cases hneg : x < 0
      · have hno := hbad (by unfold okAt; rw [hxd]; simp; omega)
        have hd1 : decide (x < 0) = true := by simpa using hneg
        clear hbad hgood hxd hx hneg
        have Xhno := Lib.hid hno
        have XhK := Lib.hid hK
        clear hno hK
        go_wp2_with fail
        go_quiet (fail)
        go_wp2_with fail
        go_ret
        exact ⟨by rw [Xhno.out]; try rfl, XhK.out.trans (Keep.drewN' _ _ _)⟩
      · have hd1 : decide (x < 0) = false := by simpa using hneg
        by_cases hbig : (n : Int) ≤ x
        · have hno := hbad (by unfold okAt; rw [hxd]; simp; omega)
          have hd2 : decide ((n : Int) ≤ x) = true := by simpa using hbig
          clear hbad hgood hxd hx hneg hbig
          have Xhno := Lib.hid hno
          have XhK := Lib.hid hK
          clear hno hK
          go_wp2_with fail
          go_quiet (fail)
          go_wp2_with fail
          go_ret
          exact ⟨by rw [Xhno.out]; try rfl, XhK.out.trans (Keep.drewN' _ _ _)⟩
        · have hd2 : decide ((n : Int) ≤ x) = false := by simpa using hbig
          cases k with
          | zero =>
            simp only [Nat.add_zero] at f1
            have hy := hgood (by unfold okAt; rw [hxd]; simp; omega)
            clear hbad hgood hxd hx hneg hbig
            have Xhy := Lib.hid hy
            have XhK := Lib.hid hK
            clear hy hK
            go_wp2_with fail
            go_quiet (fail)
            go_wp2_with fail
            go_roundw
            case rel => exact ⟨0 + 1, by omega, by go_num, XhK.out.trans (Keep.drewN' _ _ _), Xhy.out⟩
            case measure => simp [intOf]; omega
          | succ k =>
            obtain ⟨y, hy⟩ : ∃ y, cols[k]? = some y := ⟨_, List.getElem?_eq_getElem (by omega)⟩
            obtain ⟨b', o', hbo, hb', hya⟩ := Xhe.out k y hy
            cases hbo
            have f2 := hK.cell hya trivial
            simp only [Nat.mul_one] at f2
            have hyd : cols.getD (k + 1 - 1) 0 = y := by simp [List.getD, hy]
            have hd3 : decide ((0 : Int) < ((k + 1 : Nat) : Int)) = true := by
              rw [decide_eq_true_eq]; omega
            clear hya
            by_cases hle : x ≤ y
            · have hno := hbad (by unfold okAt; rw [hxd, hyd]; simp; omega)
              have hd4 : decide (x ≤ y) = true := by simpa using hle
              clear hbad hgood hxd hyd hx hy hneg hbig hle
              have Xhno := Lib.hid hno
              have XhK := Lib.hid hK
              clear hno hK
              go_wp2_with fail
              go_quiet (fail)
              go_wp2_with fail
              go_ret
              exact ⟨by rw [Xhno.out]; try rfl, XhK.out.trans (Keep.drewN' _ _ _)⟩
            · have hok := hgood (by unfold okAt; rw [hxd, hyd]; simp; omega)
              have hd4 : decide (x ≤ y) = false := by simpa using hle
              clear hbad hgood hxd hyd hx hy hneg hbig hle
              have Xhok := Lib.hid hok
              have XhK := Lib.hid hK
              clear hok hK
              go_wp2_with fail
              go_quiet (fail)
              go_wp2_with fail
              go_roundw
              case rel => exact ⟨k + 1 + 1, by omega, by go_num, XhK.out.trans (Keep.drewN' _ _ _), Xhok.out⟩
              case measure => simp [intOf]; omega
    · obtain rfl : k = cols.length := by omega
      have hyes : rowD n cols = true := List.all_eq_true.2 fun j hj => hall j (List.mem_range.1 hj)
      clear hall
      have Xhyes := Lib.hid hyes
      have XhK := Lib.hid hK
      clear hyes hK
      go_wp2_with fail
      go_ret
      exact ⟨by rw [Xhyes.out]; try rfl, XhK.out⟩
end Go.Proofs
