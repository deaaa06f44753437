/- Layer 16 (plan): slices.IndexFunc and ContainsFunc, printed by wip/tools/cc/gen_pnc.py. -/
import Derived.Test.YtichfebfcapnhaaProg
import Derived.Test.YtichfebfcapnhaaPnA
namespace Go.Proofs
open Go.RowKit Go.Ink
set_option linter.unusedVariables false
set_option linter.unusedSimpArgs false
attribute [local go_sem] Oper.semAt_some

/-- the place of the first that fits; -1: none does -/
def findI {α : Type} (p : α → Bool) : List α → Int
  | [] => -1
  | x :: r => if p x then 0 else (if findI p r < 0 then -1 else findI p r + 1)
theorem findI_none {α : Type} (p : α → Bool) : ∀ (l : List α), l.any p = false → findI p l = -1
  | [], _ => rfl
  | x :: r, h => by
    simp only [List.any_cons, Bool.or_eq_false_iff] at h
    have ih := findI_none p r h.2
    simp [findI, h.1, ih]
theorem findI_some {α : Type} (p : α → Bool) : ∀ (l : List α) (k : Nat) (x : α), l[k]? = some x → (l.take k).any p = false → p x = true → findI p l = (k : Int)
  | [], k, x, h, _, _ => by simp at h
  | y :: r, 0, x, h, _, hp => by
    simp only [List.getElem?_cons_zero, Option.some.injEq] at h
    subst h
    simp [findI, hp]
  | y :: r, k + 1, x, h, hn, hp => by
    simp only [List.getElem?_cons_succ] at h
    simp only [List.take_succ_cons, List.any_cons, Bool.or_eq_false_iff] at hn
    have ih := findI_some p r k x h hn.2 hp
    simp only [findI, hn.1, ih]
    have h2 : ¬ ((k : Int) < 0) := by omega
    simp [h2]
theorem findI_any {α : Type} (p : α → Bool) : ∀ (l : List α), decide (0 ≤ findI p l) = l.any p
  | [] => rfl
  | x :: r => by
    have ih := findI_any p r
    have e : findI p (x :: r) = if p x = true then 0 else (if findI p r < 0 then -1 else findI p r + 1) := rfl
    rw [e, List.any_cons, ← ih]
    by_cases hp : p x = true
    · rw [if_pos hp, hp]; rfl
    · rw [if_neg hp, Bool.not_eq_true] at *
      rw [hp, Bool.false_or, decide_eq_decide]
      split <;> omega
theorem findI_any' {α : Type} (p : α → Bool) (l : List α) : (decide (findI p l ≥ 0)) = l.any p := findI_any p l
theorem any_step {α : Type} (p : α → Bool) (l : List α) {k : Nat} {c : α} (h : l[k]? = some c) : (l.take (k + 1)).any p = ((l.take k).any p || p c) := by
  rw [List.take_add_one, h, List.any_append]
  simp

set_option maxRecDepth 100000 in
theorem idxTerms_any {gf : Nat} {bs lb : Array Value} (eg : ∀ args w, (callFunc gf args).run Try.prog w = .ok (.enter gf args) w) (p : TermD → Bool) (n0 : Nat) (v : Value) (xs : List (TermD)) (w : World) (hx : TermsIn n0 w v xs) (hn : n0 ≤ w.heap.size)
    (hf : ∀ x, x ∈ xs → ∀ W, Keep (fun b => b < w.heap.size) w W → Calls Try.prog gf (bs.push (.agg #[.bool x.var, .string x.text]) ++ lb) W fun e w' => e = .returned (.bool (p x)) ∧ Keep (fun b => b < W.heap.size) W w') :
    Calls Try.prog 90 #[v, .func (.func gf) bs lb] w fun e w' => e = .returned (.int .i64 (findI p xs)) ∧ Keep (fun b => b < w.heap.size) w w' := by
  obtain ⟨a, cap, rfl, hlen, hcap, hel⟩ := id hx
  have Xhel := Lib.hid hel
  have Xhf := Lib.hid hf
  clear hel hf
  go_enter Try.func90, Try.ntmps90
  go_wp2_with fail
  go_loopw [8] (fun i wr => ∃ k : Nat, k ≤ xs.length ∧ i = .int .i64 (k : Int) ∧ Keep (fun b => b < w.heap.size) w wr ∧ (xs.take k).any p = false) (fun i _ => xs.length - (intOf i).toNat)
  case atStart => exact ⟨0, by omega, rfl, Keep.refl _ _, rfl⟩
  case round =>
    obtain ⟨k, hk, rfl, hK, hany⟩ := hrel
    have hsz := hK.size
    by_cases hlt : k < xs.length
    · have hlt1 : (k : Int) < xs.length := by omega
      have hk0 : (0 : Int) ≤ k := by omega
      obtain ⟨x, hx1⟩ : ∃ x, xs[k]? = some x := ⟨_, List.getElem?_eq_getElem hlt⟩
      obtain ⟨b, o, rfl, hb, q0, q1⟩ := Xhel.out k x hx1
      have h0 := hK.cell (q0) (show b < w.heap.size by omega)
      have h1 := hK.cell (q1) (show b < w.heap.size by omega)
      try simp only [Nat.mul_one, Nat.add_zero] at h0 h1
      have hbw : b < wr.heap.size := by omega
      have hst := any_step p xs hx1
      rw [hany, Bool.false_or] at hst
      have hc := Xhf.out x (List.mem_of_getElem? hx1) wr hK
      obtain ⟨px, hpx⟩ : ∃ b, p x = b := ⟨_, rfl⟩
      have hfi := findI_some p xs k x hx1 hany
      rw [hpx] at hst hc hfi
      skip
      clear hx1 q0 q1
      have XhK := Lib.hid hK
      have Xhany := Lib.hid hany
      have Xhst := Lib.hid hst
      have Xhpx := Lib.hid hpx
      have Xhc := Lib.hid hc
      have Xhfi := Lib.hid hfi
      clear hK hany hst hpx hc hfi
      go_wp2_with fail
      refine Xhc.out.mono ?_
      rintro e W1 ⟨rfl, k1⟩
      have hK1 := XhK.out.trans (k1.mono fun b hb _ => by omega)
      clear k1
      have XhK1 := Lib.hid hK1
      clear hK1
      cases px
      · go_wp2_with fail
        go_roundw
        case rel => exact ⟨k + 1, by omega, by go_num, XhK1.out, Xhst.out⟩
        case measure => simp [intOf]; omega
      · go_wp2_with fail
        go_ret
        exact ⟨by rw [Xhfi.out (by trivial)]; rfl, XhK1.out⟩
    · obtain rfl : k = xs.length := by omega
      rw [List.take_length] at hany
      have hfi := findI_none p xs hany
      have XhK := Lib.hid hK
      have Xhfi := Lib.hid hfi
      clear hK hfi
      go_wp2_with fail
      go_ret
      exact ⟨by rw [Xhfi.out]; rfl, XhK.out⟩
set_option maxRecDepth 100000 in
theorem hasTerms_any {gf : Nat} {bs lb : Array Value} (eg : ∀ args w, (callFunc gf args).run Try.prog w = .ok (.enter gf args) w) (p : TermD → Bool) (n0 : Nat) (v : Value) (xs : List (TermD)) (w : World) (hx : TermsIn n0 w v xs) (hn : n0 ≤ w.heap.size)
    (hf : ∀ x, x ∈ xs → ∀ W, Keep (fun b => b < w.heap.size) w W → Calls Try.prog gf (bs.push (.agg #[.bool x.var, .string x.text]) ++ lb) W fun e w' => e = .returned (.bool (p x)) ∧ Keep (fun b => b < W.heap.size) W w') :
    Calls Try.prog 66 #[v, .func (.func gf) bs lb] w fun e w' => e = .returned (.bool (xs.any p)) ∧ Keep (fun b => b < w.heap.size) w w' := by
  have hi := idxTerms_any eg p n0 v xs w hx hn hf
  have hE := findI_any p xs
  obtain ⟨i, hfi⟩ : ∃ i, findI p xs = i := ⟨_, rfl⟩
  rw [hfi] at hi hE
  obtain ⟨a, cap, rfl, hlen, hcap, hel⟩ := id hx
  clear hel eg
  have Xhi := Lib.hid hi
  have Xhf := Lib.hid hf
  have XhE := Lib.hid hE
  have Xhfi := Lib.hid hfi
  clear hi hf hE hfi
  go_enter Try.func66, Try.ntmps66
  go_wp2_with fail
  refine Xhi.out.mono ?_
  rintro e W1 ⟨rfl, k1⟩
  have Xk1 := Lib.hid k1
  clear k1
  go_wp2_with fail
  go_ret
  exact ⟨by rw [← XhE.out]; rfl, Xk1.out⟩

theorem ints_kept {n : Nat} {w w' : World} {v : Value} {ss : List Int} (h : IntsIn n w v ss) (hK : Keep (fun k => k < n) w w') : IntsIn n w' v ss := h.mono fun _ _ _ hb h => hK.cell h hb
theorem strs_kept {n : Nat} {w w' : World} {v : Value} {ss : List ByteArray} (h : StrsIn n w v ss) (hK : Keep (fun k => k < n) w w') : StrsIn n w' v ss := h.mono fun _ _ _ hb h => hK.cell h hb
/-- a literal as a value, its arguments' slice given -/
def litV (L : LitD) (sa : Value) : Value := .agg #[.int .i64 L.kind, .string L.atom.pred, sa, .bool L.left.var, .string L.left.text, .bool L.right.var, .string L.right.text]
/-- a relation's sizes -/
structure SizeD where
  pred : ByteArray
  rows : Int
  dist : List Int
  deriving DecidableEq, Inhabited
def sizeV (s : SizeD) (sv : Value) : Value := .agg #[.string s.pred, .int .i64 s.rows, sv]
def SizeE (n : Nat) (w : World) (b o : Nat) (s : SizeD) : Prop := ∃ sv, CellsE w b o [.string s.pred, .int .i64 s.rows, sv] ∧ IntsIn n w sv s.dist
abbrev SizesIn (n : Nat) (w : World) (v : Value) (ss : List SizeD) : Prop := SliceIn n w 3 (SizeE n) v ss
theorem SizesIn.keep {n : Nat} {w w' : World} {v : Value} {ss : List SizeD} (h : SizesIn n w v ss) (hK : Keep (fun k => k < n) w w') : SizesIn n w' v ss :=
  h.mono fun b o s hb ⟨sv, h1, h2⟩ => ⟨sv, fun j v hj => hK.cell (h1 j v hj) hb, ints_kept h2 hK⟩

set_option maxRecDepth 100000 in
theorem idxLits_any {gf : Nat} {bs lb : Array Value} (eg : ∀ args w, (callFunc gf args).run Try.prog w = .ok (.enter gf args) w) (p : LitD → Bool) (n0 : Nat) (v : Value) (xs : List (LitD)) (w : World) (hx : LitsIn n0 w v xs) (hn : n0 ≤ w.heap.size)
    (hf : ∀ x, x ∈ xs → ∀ W, Keep (fun b => b < w.heap.size) w W → ∀ sa, TermsIn n0 W sa x.atom.args → Calls Try.prog gf (bs.push (litV x sa) ++ lb) W fun e w' => e = .returned (.bool (p x)) ∧ Keep (fun b => b < W.heap.size) W w') :
    Calls Try.prog 98 #[v, .func (.func gf) bs lb] w fun e w' => e = .returned (.int .i64 (findI p xs)) ∧ Keep (fun b => b < w.heap.size) w w' := by
  obtain ⟨a, cap, rfl, hlen, hcap, hel⟩ := id hx
  have Xhel := Lib.hid hel
  have Xhf := Lib.hid hf
  clear hel hf
  go_enter Try.func98, Try.ntmps98
  go_wp2_with fail
  go_loopw [8] (fun i wr => ∃ k : Nat, k ≤ xs.length ∧ i = .int .i64 (k : Int) ∧ Keep (fun b => b < w.heap.size) w wr ∧ (xs.take k).any p = false) (fun i _ => xs.length - (intOf i).toNat)
  case atStart => exact ⟨0, by omega, rfl, Keep.refl _ _, rfl⟩
  case round =>
    obtain ⟨k, hk, rfl, hK, hany⟩ := hrel
    have hsz := hK.size
    by_cases hlt : k < xs.length
    · have hlt1 : (k : Int) < xs.length := by omega
      have hk0 : (0 : Int) ≤ k := by omega
      obtain ⟨x, hx1⟩ : ∃ x, xs[k]? = some x := ⟨_, List.getElem?_eq_getElem hlt⟩
      obtain ⟨b, o, rfl, hb, sa, qc, qt⟩ := Xhel.out k x hx1
      have h0 := hK.cell (qc 0 _ rfl) (show b < w.heap.size by omega)
      have h1 := hK.cell (qc 1 _ rfl) (show b < w.heap.size by omega)
      have h2 := hK.cell (qc 2 _ rfl) (show b < w.heap.size by omega)
      have h3 := hK.cell (qc 3 _ rfl) (show b < w.heap.size by omega)
      have h4 := hK.cell (qc 4 _ rfl) (show b < w.heap.size by omega)
      have h5 := hK.cell (qc 5 _ rfl) (show b < w.heap.size by omega)
      have h6 := hK.cell (qc 6 _ rfl) (show b < w.heap.size by omega)
      try simp only [Nat.mul_one, Nat.add_zero] at h0 h1 h2 h3 h4 h5 h6
      have hbw : b < wr.heap.size := by omega
      have hst := any_step p xs hx1
      rw [hany, Bool.false_or] at hst
      have hc := Xhf.out x (List.mem_of_getElem? hx1) wr hK sa (terms_keep qt (hK.mono fun b _ h => by omega))
      obtain ⟨px, hpx⟩ : ∃ b, p x = b := ⟨_, rfl⟩
      have hfi := findI_some p xs k x hx1 hany
      rw [hpx] at hst hc hfi
      unfold litV at hc
      clear hx1 qc qt
      have XhK := Lib.hid hK
      have Xhany := Lib.hid hany
      have Xhst := Lib.hid hst
      have Xhpx := Lib.hid hpx
      have Xhc := Lib.hid hc
      have Xhfi := Lib.hid hfi
      clear hK hany hst hpx hc hfi
      go_wp2_with fail
      refine Xhc.out.mono ?_
      rintro e W1 ⟨rfl, k1⟩
      have hK1 := XhK.out.trans (k1.mono fun b hb _ => by omega)
      clear k1
      have XhK1 := Lib.hid hK1
      clear hK1
      cases px
      · go_wp2_with fail
        go_roundw
        case rel => exact ⟨k + 1, by omega, by go_num, XhK1.out, Xhst.out⟩
        case measure => simp [intOf]; omega
      · go_wp2_with fail
        go_ret
        exact ⟨by rw [Xhfi.out (by trivial)]; rfl, XhK1.out⟩
    · obtain rfl : k = xs.length := by omega
      rw [List.take_length] at hany
      have hfi := findI_none p xs hany
      have XhK := Lib.hid hK
      have Xhfi := Lib.hid hfi
      clear hK hfi
      go_wp2_with fail
      go_ret
      exact ⟨by rw [Xhfi.out]; rfl, XhK.out⟩
set_option maxRecDepth 100000 in
theorem hasLits_any {gf : Nat} {bs lb : Array Value} (eg : ∀ args w, (callFunc gf args).run Try.prog w = .ok (.enter gf args) w) (p : LitD → Bool) (n0 : Nat) (v : Value) (xs : List (LitD)) (w : World) (hx : LitsIn n0 w v xs) (hn : n0 ≤ w.heap.size)
    (hf : ∀ x, x ∈ xs → ∀ W, Keep (fun b => b < w.heap.size) w W → ∀ sa, TermsIn n0 W sa x.atom.args → Calls Try.prog gf (bs.push (litV x sa) ++ lb) W fun e w' => e = .returned (.bool (p x)) ∧ Keep (fun b => b < W.heap.size) W w') :
    Calls Try.prog 84 #[v, .func (.func gf) bs lb] w fun e w' => e = .returned (.bool (xs.any p)) ∧ Keep (fun b => b < w.heap.size) w w' := by
  have hi := idxLits_any eg p n0 v xs w hx hn hf
  have hE := findI_any p xs
  obtain ⟨i, hfi⟩ : ∃ i, findI p xs = i := ⟨_, rfl⟩
  rw [hfi] at hi hE
  obtain ⟨a, cap, rfl, hlen, hcap, hel⟩ := id hx
  clear hel eg
  have Xhi := Lib.hid hi
  have Xhf := Lib.hid hf
  have XhE := Lib.hid hE
  have Xhfi := Lib.hid hfi
  clear hi hf hE hfi
  go_enter Try.func84, Try.ntmps84
  go_wp2_with fail
  refine Xhi.out.mono ?_
  rintro e W1 ⟨rfl, k1⟩
  have Xk1 := Lib.hid k1
  clear k1
  go_wp2_with fail
  go_ret
  exact ⟨by rw [← XhE.out]; rfl, Xk1.out⟩

set_option maxRecDepth 100000 in
theorem idxSizes_any {gf : Nat} {bs lb : Array Value} (eg : ∀ args w, (callFunc gf args).run Try.prog w = .ok (.enter gf args) w) (p : SizeD → Bool) (n0 : Nat) (v : Value) (xs : List (SizeD)) (w : World) (hx : SizesIn n0 w v xs) (hn : n0 ≤ w.heap.size)
    (hf : ∀ x, x ∈ xs → ∀ W, Keep (fun b => b < w.heap.size) w W → ∀ sv, IntsIn n0 W sv x.dist → Calls Try.prog gf (bs.push (sizeV x sv) ++ lb) W fun e w' => e = .returned (.bool (p x)) ∧ Keep (fun b => b < W.heap.size) W w') :
    Calls Try.prog 70 #[v, .func (.func gf) bs lb] w fun e w' => e = .returned (.int .i64 (findI p xs)) ∧ Keep (fun b => b < w.heap.size) w w' := by
  obtain ⟨a, cap, rfl, hlen, hcap, hel⟩ := id hx
  have Xhel := Lib.hid hel
  have Xhf := Lib.hid hf
  clear hel hf
  go_enter Try.func70, Try.ntmps70
  go_wp2_with fail
  go_loopw [8] (fun i wr => ∃ k : Nat, k ≤ xs.length ∧ i = .int .i64 (k : Int) ∧ Keep (fun b => b < w.heap.size) w wr ∧ (xs.take k).any p = false) (fun i _ => xs.length - (intOf i).toNat)
  case atStart => exact ⟨0, by omega, rfl, Keep.refl _ _, rfl⟩
  case round =>
    obtain ⟨k, hk, rfl, hK, hany⟩ := hrel
    have hsz := hK.size
    by_cases hlt : k < xs.length
    · have hlt1 : (k : Int) < xs.length := by omega
      have hk0 : (0 : Int) ≤ k := by omega
      obtain ⟨x, hx1⟩ : ∃ x, xs[k]? = some x := ⟨_, List.getElem?_eq_getElem hlt⟩
      obtain ⟨b, o, rfl, hb, sv, qc, qt⟩ := Xhel.out k x hx1
      have h0 := hK.cell (qc 0 _ rfl) (show b < w.heap.size by omega)
      have h1 := hK.cell (qc 1 _ rfl) (show b < w.heap.size by omega)
      have h2 := hK.cell (qc 2 _ rfl) (show b < w.heap.size by omega)
      try simp only [Nat.mul_one, Nat.add_zero] at h0 h1 h2
      have hbw : b < wr.heap.size := by omega
      have hst := any_step p xs hx1
      rw [hany, Bool.false_or] at hst
      have hc := Xhf.out x (List.mem_of_getElem? hx1) wr hK sv (ints_kept qt (hK.mono fun b _ h => by omega))
      obtain ⟨px, hpx⟩ : ∃ b, p x = b := ⟨_, rfl⟩
      have hfi := findI_some p xs k x hx1 hany
      rw [hpx] at hst hc hfi
      unfold sizeV at hc
      clear hx1 qc qt
      have XhK := Lib.hid hK
      have Xhany := Lib.hid hany
      have Xhst := Lib.hid hst
      have Xhpx := Lib.hid hpx
      have Xhc := Lib.hid hc
      have Xhfi := Lib.hid hfi
      clear hK hany hst hpx hc hfi
      go_wp2_with fail
      refine Xhc.out.mono ?_
      rintro e W1 ⟨rfl, k1⟩
      have hK1 := XhK.out.trans (k1.mono fun b hb _ => by omega)
      clear k1
      have XhK1 := Lib.hid hK1
      clear hK1
      cases px
      · go_wp2_with fail
        go_roundw
        case rel => exact ⟨k + 1, by omega, by go_num, XhK1.out, Xhst.out⟩
        case measure => simp [intOf]; omega
      · go_wp2_with fail
        go_ret
        exact ⟨by rw [Xhfi.out (by trivial)]; rfl, XhK1.out⟩
    · obtain rfl : k = xs.length := by omega
      rw [List.take_length] at hany
      have hfi := findI_none p xs hany
      have XhK := Lib.hid hK
      have Xhfi := Lib.hid hfi
      clear hK hfi
      go_wp2_with fail
      go_ret
      exact ⟨by rw [Xhfi.out]; rfl, XhK.out⟩
set_option maxRecDepth 100000 in
theorem hasSizes_any {gf : Nat} {bs lb : Array Value} (eg : ∀ args w, (callFunc gf args).run Try.prog w = .ok (.enter gf args) w) (p : SizeD → Bool) (n0 : Nat) (v : Value) (xs : List (SizeD)) (w : World) (hx : SizesIn n0 w v xs) (hn : n0 ≤ w.heap.size)
    (hf : ∀ x, x ∈ xs → ∀ W, Keep (fun b => b < w.heap.size) w W → ∀ sv, IntsIn n0 W sv x.dist → Calls Try.prog gf (bs.push (sizeV x sv) ++ lb) W fun e w' => e = .returned (.bool (p x)) ∧ Keep (fun b => b < W.heap.size) W w') :
    Calls Try.prog 80 #[v, .func (.func gf) bs lb] w fun e w' => e = .returned (.bool (xs.any p)) ∧ Keep (fun b => b < w.heap.size) w w' := by
  have hi := idxSizes_any eg p n0 v xs w hx hn hf
  have hE := findI_any p xs
  obtain ⟨i, hfi⟩ : ∃ i, findI p xs = i := ⟨_, rfl⟩
  rw [hfi] at hi hE
  obtain ⟨a, cap, rfl, hlen, hcap, hel⟩ := id hx
  clear hel eg
  have Xhi := Lib.hid hi
  have Xhf := Lib.hid hf
  have XhE := Lib.hid hE
  have Xhfi := Lib.hid hfi
  clear hi hf hE hfi
  go_enter Try.func80, Try.ntmps80
  go_wp2_with fail
  refine Xhi.out.mono ?_
  rintro e W1 ⟨rfl, k1⟩
  have Xk1 := Lib.hid k1
  clear k1
  go_wp2_with fail
  go_ret
  exact ⟨by rw [← XhE.out]; rfl, Xk1.out⟩

set_option maxRecDepth 100000 in
theorem idxInts_any {gf : Nat} {bs lb : Array Value} (eg : ∀ args w, (callFunc gf args).run Try.prog w = .ok (.enter gf args) w) (p : Int → Bool) (n0 : Nat) (v : Value) (xs : List (Int)) (w : World) (hx : IntsIn n0 w v xs) (hn : n0 ≤ w.heap.size)
    (hf : ∀ x, x ∈ xs → ∀ W, Keep (fun b => b < w.heap.size) w W → Calls Try.prog gf (bs.push (.int .i64 x) ++ lb) W fun e w' => e = .returned (.bool (p x)) ∧ Keep (fun b => b < W.heap.size) W w') :
    Calls Try.prog 94 #[v, .func (.func gf) bs lb] w fun e w' => e = .returned (.int .i64 (findI p xs)) ∧ Keep (fun b => b < w.heap.size) w w' := by
  obtain ⟨a, cap, rfl, hlen, hcap, hel⟩ := id hx
  have Xhel := Lib.hid hel
  have Xhf := Lib.hid hf
  clear hel hf
  go_enter Try.func94, Try.ntmps94
  go_wp2_with fail
  go_loopw [8] (fun i wr => ∃ k : Nat, k ≤ xs.length ∧ i = .int .i64 (k : Int) ∧ Keep (fun b => b < w.heap.size) w wr ∧ (xs.take k).any p = false) (fun i _ => xs.length - (intOf i).toNat)
  case atStart => exact ⟨0, by omega, rfl, Keep.refl _ _, rfl⟩
  case round =>
    obtain ⟨k, hk, rfl, hK, hany⟩ := hrel
    have hsz := hK.size
    by_cases hlt : k < xs.length
    · have hlt1 : (k : Int) < xs.length := by omega
      have hk0 : (0 : Int) ≤ k := by omega
      obtain ⟨x, hx1⟩ : ∃ x, xs[k]? = some x := ⟨_, List.getElem?_eq_getElem hlt⟩
      obtain ⟨b, o, rfl, hb, q0⟩ := Xhel.out k x hx1
      have h0 := hK.cell (q0) (show b < w.heap.size by omega)
      try simp only [Nat.mul_one, Nat.add_zero] at h0
      have hbw : b < wr.heap.size := by omega
      have hst := any_step p xs hx1
      rw [hany, Bool.false_or] at hst
      have hc := Xhf.out x (List.mem_of_getElem? hx1) wr hK
      obtain ⟨px, hpx⟩ : ∃ b, p x = b := ⟨_, rfl⟩
      have hfi := findI_some p xs k x hx1 hany
      rw [hpx] at hst hc hfi
      skip
      clear hx1 q0
      have XhK := Lib.hid hK
      have Xhany := Lib.hid hany
      have Xhst := Lib.hid hst
      have Xhpx := Lib.hid hpx
      have Xhc := Lib.hid hc
      have Xhfi := Lib.hid hfi
      clear hK hany hst hpx hc hfi
      go_wp2_with fail
      refine Xhc.out.mono ?_
      rintro e W1 ⟨rfl, k1⟩
      have hK1 := XhK.out.trans (k1.mono fun b hb _ => by omega)
      clear k1
      have XhK1 := Lib.hid hK1
      clear hK1
      cases px
      · go_wp2_with fail
        go_roundw
        case rel => exact ⟨k + 1, by omega, by go_num, XhK1.out, Xhst.out⟩
        case measure => simp [intOf]; omega
      · go_wp2_with fail
        go_ret
        exact ⟨by rw [Xhfi.out (by trivial)]; rfl, XhK1.out⟩
    · obtain rfl : k = xs.length := by omega
      rw [List.take_length] at hany
      have hfi := findI_none p xs hany
      have XhK := Lib.hid hK
      have Xhfi := Lib.hid hfi
      clear hK hfi
      go_wp2_with fail
      go_ret
      exact ⟨by rw [Xhfi.out]; rfl, XhK.out⟩
set_option maxRecDepth 100000 in
theorem hasInts_any {gf : Nat} {bs lb : Array Value} (eg : ∀ args w, (callFunc gf args).run Try.prog w = .ok (.enter gf args) w) (p : Int → Bool) (n0 : Nat) (v : Value) (xs : List (Int)) (w : World) (hx : IntsIn n0 w v xs) (hn : n0 ≤ w.heap.size)
    (hf : ∀ x, x ∈ xs → ∀ W, Keep (fun b => b < w.heap.size) w W → Calls Try.prog gf (bs.push (.int .i64 x) ++ lb) W fun e w' => e = .returned (.bool (p x)) ∧ Keep (fun b => b < W.heap.size) W w') :
    Calls Try.prog 82 #[v, .func (.func gf) bs lb] w fun e w' => e = .returned (.bool (xs.any p)) ∧ Keep (fun b => b < w.heap.size) w w' := by
  have hi := idxInts_any eg p n0 v xs w hx hn hf
  have hE := findI_any p xs
  obtain ⟨i, hfi⟩ : ∃ i, findI p xs = i := ⟨_, rfl⟩
  rw [hfi] at hi hE
  obtain ⟨a, cap, rfl, hlen, hcap, hel⟩ := id hx
  clear hel eg
  have Xhi := Lib.hid hi
  have Xhf := Lib.hid hf
  have XhE := Lib.hid hE
  have Xhfi := Lib.hid hfi
  clear hi hf hE hfi
  go_enter Try.func82, Try.ntmps82
  go_wp2_with fail
  refine Xhi.out.mono ?_
  rintro e W1 ⟨rfl, k1⟩
  have Xk1 := Lib.hid k1
  clear k1
  go_wp2_with fail
  go_ret
  exact ⟨by rw [← XhE.out]; rfl, Xk1.out⟩
end Go.Proofs
