/- Layer 16 (plan): the document's step of a literal. -/
import Derived.Test.YtichfebfcapnhaaProg
import Derived.Test.YtichfebfcapnhaaPnL
import Derived.Test.YtichfebfcapnhaaOwnToRowC
namespace Go.Proofs
open Go.RowKit Go.Ink
set_option linter.unusedVariables false
set_option linter.unusedSimpArgs false
attribute [local go_sem] Oper.semAt_some

def freshL (K vs : List ByteArray) : List ByteArray := vs.filter fun x => !decide (x ∈ K)
theorem freshL_snoc (K vs : List ByteArray) {k : Nat} {x : ByteArray} (h : vs[k]? = some x) : freshL K (vs.take (k + 1)) = freshL K (vs.take k) ++ if decide (x ∈ K) then [] else [x] := by
  unfold freshL
  rw [List.take_add_one, h, List.filter_append]
  simp only [Option.toList_some, List.filter_cons, List.filter_nil]
  cases decide (x ∈ K) <;> rfl
/-- the document's step of a literal -/
def stepR (K : List ByteArray) (L : LitD) (i : Int) : StepD := ⟨i, if L.kind = 3 then [] else boundL K L.atom.args, if L.kind = 1 then freshL K (varsL L.atom.args) else []⟩

theorem once_filter (p : ByteArray → Bool) (l : List ByteArray) : onceL (l.filter p) = (onceL l).filter p := by
  have h : ∀ n, ∀ l : List ByteArray, l.length = n → onceL (l.filter p) = (onceL l).filter p := by
    intro n
    induction n with
    | zero => intro l hl; have := List.eq_nil_of_length_eq_zero hl; subst this; rfl
    | succ n ih =>
      intro l hl
      obtain ⟨x, hx⟩ : ∃ x, l[n]? = some x := ⟨_, List.getElem?_eq_getElem (by omega)⟩
      have hs : l = l.take n ++ [x] := by
        have := List.take_add_one (l := l) (i := n)
        rw [hx, List.take_of_length_le (by omega)] at this
        exact this
      have ih2 := ih (l.take n) (by rw [List.length_take]; omega)
      rw [hs, List.filter_append, onceL_snoc]
      by_cases hp : p x = true
      · rw [show [x].filter p = [x] from by simp [hp], onceL_snoc, ih2]
        by_cases hm : x ∈ onceL (l.take n)
        · rw [if_pos hm, if_pos (List.mem_filter.2 ⟨hm, hp⟩)]
        · rw [if_neg hm, if_neg (fun h => hm (List.mem_filter.1 h).1), List.filter_append]
          simp [hp]
      · rw [show [x].filter p = [] from by simp [hp], List.append_nil, ih2]
        split
        · rfl
        · rw [List.filter_append]; simp [hp]
  exact h _ l rfl
theorem fresh_new (K : List ByteArray) (ts : List TermD) : freshL K (varsL ts) = newL K ts := by
  unfold freshL varsL newL openD
  rw [← once_filter]
  congr 1
  rw [List.filter_map]
  congr 1
  rw [List.filter_filter]
  congr 1
  funext t
  simp only [Function.comp]
  cases t.var <;> simp
theorem new_none {K : List ByteArray} {ts : List TermD} (h : ts.any (openD K) = false) : newL K ts = [] := by
  unfold newL
  rw [List.filter_eq_nil_iff.2 (fun t ht => by rw [List.any_eq_false] at h; exact h t ht)]
  rfl
theorem step_same {K : List ByteArray} {L : LitD} (h : readyP K L = true) (i : Int) : stepR K L i = stepP K L i := by
  unfold stepR stepP
  by_cases h3 : L.kind = 3
  · rw [if_pos h3, if_pos h3, if_neg (by omega)]
  · rw [if_neg h3, if_neg h3]
    by_cases h1 : L.kind = 1
    · rw [if_pos h1, fresh_new]
    · rw [if_neg h1]
      unfold readyP termsP at h
      rw [decide_eq_false h1, Bool.false_or, if_neg h3, Bool.not_eq_true'] at h
      rw [new_none h]
/-- what the program learns is what the document appends -/
theorem newL_open {K : List ByteArray} {ts : List TermD} {x : ByteArray} (h : x ∈ newL K ts) : x ∉ K := by
  unfold newL at h
  rw [onceL_mem] at h
  simp only [List.mem_map, List.mem_filter, openD, Bool.and_eq_true, Bool.not_eq_true', decide_eq_false_iff_not] at h
  obtain ⟨t, ⟨_, _, h⟩, rfl⟩ := h
  exact h
theorem learn_app : ∀ (new K : List ByteArray), new.Nodup → (∀ x, x ∈ new → x ∉ K) → learnP K new = K ++ new := by
  intro new
  induction new with
  | nil => intro K _ _; simp [learnP]
  | cons x r ih =>
    intro K hn hx
    rw [List.nodup_cons] at hn
    unfold learnP
    rw [List.foldl_cons, if_neg (hx x (by simp))]
    have := ih (K ++ [x]) hn.2 (fun y hy hm => by
      rcases List.mem_append.1 hm with h | h
      · exact hx y (by simp [hy]) h
      · simp only [List.mem_singleton] at h; subst h; exact hn.1 hy)
    unfold learnP at this
    rw [this]
    simp
theorem learn_step (K : List ByteArray) (L : LitD) (i : Int) : learnP K (stepP K L i).new = K ++ (stepP K L i).new := by
  unfold stepP
  split
  · simp [learnP]
  · exact learn_app _ _ (onceL_nodup _) (fun x hx => newL_open hx)

set_option maxRecDepth 100000 in
set_option maxHeartbeats 1000000 in
theorem refStep_any (n : Nat) (K : List ByteArray) (vk : Value) (r : RuleD) (sh sb : Value) (i : Nat) (L : LitD) (hL : r.body[i]? = some L) (w : World) (hS : StrsIn n w vk K) (hr : RuleIn n w sh sb r) (hn : n ≤ w.heap.size) :
    Calls Try.prog 45 #[ruleV r sh sb, .int .i64 (i : Int), vk] w fun e w' => ∃ vb vn, e = .returned (.agg #[.int .i64 (i : Int), vb, vn]) ∧
      w'.ownsRow w.heap.size 3 1 vb (stepR K L i).bound.length ((stepR K L i).bound.map (.int .i64)) ∧ w'.ownsRow w.heap.size 9 1 vn (stepR K L i).new.length ((stepR K L i).new.map .string) ∧ Keep (fun b => b < w.heap.size) w w' := by
  obtain ⟨⟨pr, args⟩, body⟩ := r
  obtain ⟨hh, hb⟩ := hr
  unfold ruleV
  simp only at hh hb hL ⊢
  have hin := fun x W (hK : Keep (fun b => b < w.heap.size) w W) => refIn_any n vk K x W (strs_keep hS (hK.mono fun b _ h => by omega)) (by have := hK.size; omega)
  obtain ⟨ak, ck, rfl, -, -, -⟩ := id hS
  obtain ⟨ah, ch, rfl, -, -, -⟩ := id hh
  obtain ⟨ab, cb, rfl, hlb, hcb, heb⟩ := id hb
  obtain ⟨b, o, rfl, hbn, sa, hcl, hsa⟩ := heb i L hL
  have hvs := fun W (hK : Keep (fun b => b < w.heap.size) w W) => refVars_any n sa L.atom.args W (terms_keep hsa (hK.mono fun b _ h => by omega)) (by have := hK.size; omega)
  obtain ⟨aa, ca, rfl, hla, hca, hea⟩ := id hsa
  have hi : i < body.length := (List.getElem?_eq_some_iff.1 hL).1
  have hi1 : (i : Int) < body.length := by omega
  have hi0 : (0 : Int) ≤ i := by omega
  have hbw : b < w.heap.size := by omega
  have hbw1 : b < w.heap.size + 1 := by omega
  have d0 := hcl 0 _ rfl
  have d1 := hcl 1 _ rfl
  have d2 := hcl 2 _ rfl
  have d3 := hcl 3 _ rfl
  have d4 := hcl 4 _ rfl
  have d5 := hcl 5 _ rfl
  have d6 := hcl 6 _ rfl
  simp only [Nat.add_zero] at d0
  clear hcl hh hb hL hS
  obtain ⟨kd, ⟨prL, argsL⟩, ⟨lv, lt⟩, ⟨rv, rt⟩⟩ := L
  simp only at d0 d1 d2 d3 d4 d5 d6 hsa hla hca hea hvs ⊢
  have hE : stepR K ⟨kd, ⟨prL, argsL⟩, ⟨lv, lt⟩, ⟨rv, rt⟩⟩ i = ⟨i, if kd = 3 then [] else boundL K argsL, if kd = 1 then freshL K (varsL argsL) else []⟩ := rfl
  rw [hE]
  have hN : boundL K (argsL.take (if kd = 3 then 0 else argsL.length)) = if kd = 3 then [] else boundL K argsL := by
    by_cases h : kd = 3
    · rw [if_pos h, if_pos h]; rfl
    · rw [if_neg h, if_neg h, List.take_length]
  have hN3 : kd = 3 → (if kd = 3 then 0 else argsL.length) = 0 := fun h => if_pos h
  have hN4 : kd ≠ 3 → (if kd = 3 then 0 else argsL.length) = argsL.length := fun h => if_neg h
  obtain ⟨N, hNN⟩ : ∃ N, (if kd = 3 then 0 else argsL.length) = N := ⟨_, rfl⟩
  rw [hNN] at hN hN3 hN4
  rw [← hN]
  obtain ⟨fr, hfr⟩ : ∃ fr, (if kd = 1 then freshL K (varsL argsL) else []) = fr := ⟨_, rfl⟩
  rw [hfr]
  clear heb hE hNN
  have Xhea := Lib.hid hea
  have Xhin := Lib.hid hin
  have Xhvs := Lib.hid hvs
  have XhN := Lib.hid hN
  have XhN3 := Lib.hid hN3
  have XhN4 := Lib.hid hN4
  have Xhfr := Lib.hid hfr
  clear hea hin hvs hN hN3 hN4 hfr
  go_enter Try.func45, Try.ntmps45
  go_wp2_with fail
  refine wp_abs (fun W => Keep (fun b => b < w.heap.size) w W ∧ W.heap.size = w.heap.size + 1 + 1 + 1 + 1 ∧ W.heap[w.heap.size + 1]? = some (.cells #[.int .i64 0, .slice none 0 0, .slice none 0 0] 73 (0, 0)) ∧
    W.heap[w.heap.size + 1 + 1]? = some (.cells #[.int .i64 kd, .string prL, .slice aa argsL.length ca, .bool lv, .string lt, .bool rv, .string rt] 78 (0, 0)) ∧
    W.heap[w.heap.size + 1 + 1 + 1]? = some (.cells #[.int .i64 (i : Int), .slice none 0 0, .slice none 0 0] 73 (0, 0))) ⟨(((Keep.alloc _ _ _).trans (Keep.alloc _ _ _)).trans (Keep.alloc _ _ _)).trans (Keep.alloc _ _ _), by simp, by simp only [alloc_get, World.size_alloc]; simp, by simp only [alloc_get, World.size_alloc]; simp, by simp only [alloc_get, World.size_alloc]; simp⟩ ?_
  rintro W0 ⟨k0, z0, a1, a2, a3⟩
  obtain ⟨X, hX⟩ : ∃ X, w.heap.size + 1 + 1 + 1 = X := ⟨_, rfl⟩
  rw [hX] at a3 z0 ⊢
  have hXa : w.heap.size + 1 + 1 < X := by omega
  have hXb : X < w.heap.size + 1 + 1 + 1 + 1 := by omega
  have Xk0 := Lib.hid k0
  have Xa1 := Lib.hid a1
  have Xa2 := Lib.hid a2
  have Xa3 := Lib.hid a3
  have XhX := Lib.hid hX
  clear k0 a1 a2 a3 hX
  clear d0 d1 d2 d3 d4 d5 d6
  go_loopw [9] (fun i' wr => ∃ (k : Nat) (vb : Value), k ≤ N ∧ i' = .int .i64 (k : Int) ∧ Keep (fun b => b < X) W0 wr ∧ wr.heap[X]? = some (.cells #[.int .i64 (i : Int), vb, .slice none 0 0] 73 (0, 0)) ∧
    wr.ownsRow W0.heap.size 3 1 vb (boundL K (argsL.take k)).length ((boundL K (argsL.take k)).map (.int .i64))) (fun i _ => N - (intOf i).toNat)
  case atStart => exact ⟨0, _, by omega, rfl, Keep.refl _ _, Xa3.out, World.ownsRow_nil _ _ _ _⟩
  case round =>
    obtain ⟨k, vb, hk, rfl, hK, hX1, hob⟩ := hrel
    have hsz := hK.size
    have hxl := heap_lt hX1
    have hlit := hK.heap Xa2.out (show w.heap.size + 1 + 1 < X by omega)
    have c0 := cells_of_block hlit 0 _ rfl
    have c1 := cells_of_block hlit 1 _ rfl
    have c2 := cells_of_block hlit 2 _ rfl
    have c3 := cells_of_block hlit 3 _ rfl
    have c4 := cells_of_block hlit 4 _ rfl
    have c5 := cells_of_block hlit 5 _ rfl
    have c6 := cells_of_block hlit 6 _ rfl
    simp only [Nat.zero_add] at c0 c1 c2 c3 c4 c5 c6
    have hll := heap_lt hlit
    have kw : Keep (fun b => b < w.heap.size) w wr := Xk0.out.trans (hK.mono fun b _ h => by omega)
    by_cases hlt : k < N
    · have h3 : kd ≠ 3 := fun h => by have := XhN3.out h; omega
      have h3b : (kd == 3) = false := beq_eq_false_iff_ne.2 h3
      have hlt1 : (k : Int) < argsL.length := by have := XhN4.out h3; omega
      have hltn : k < argsL.length := by omega
      have hk0 : (0 : Int) ≤ k := by omega
      obtain ⟨x, hx⟩ : ∃ x, argsL[k]? = some x := ⟨_, List.getElem?_eq_getElem hltn⟩
      obtain ⟨b4, o4, rfl, hb4, q0, q1⟩ := Xhea.out k x hx
      have f0 := kw.cell q0 (show b4 < w.heap.size by omega)
      have f1 := kw.cell q1 (show b4 < w.heap.size by omega)
      have hb4w : b4 < wr.heap.size := by omega
      obtain ⟨W1, hW1⟩ : ∃ W1, wr.alloc (.cells #[.bool x.var, .string x.text] 76) = W1 := ⟨_, rfl⟩
      have k1 : Keep (fun _ => True) wr W1 := by rw [← hW1]; exact Keep.alloc _ _ _
      have g1 : W1.heap[wr.heap.size]? = some (.cells #[.bool x.var, .string x.text] 76 (0, 0)) := by rw [← hW1]; exact new_block _ _
      have hz1 := k1.size
      have hbs := boundL_snoc K argsL hx
      have hic := Xhin.out x.text W1 (kw.trans (k1.mono fun _ _ _ => trivial))
      have hop : openD K x = (x.var && !decide (x.text ∈ K)) := rfl
      obtain ⟨v, s⟩ := x
      simp only at f0 f1 hW1 g1 hic hop
      have hl1 := boundL_len K (argsL.take k)
      rw [List.length_take] at hl1
      have hX2 := k1.heap hX1 trivial
      have e1w := cells_of_block hX1 1 _ rfl
      simp only [Nat.zero_add] at e1w
      have ob2 := own_kept hob k1 (fun _ _ => trivial)
      have hK2 : Keep (fun b => b < X) W0 W1 := hK.trans (k1.mono fun _ _ _ => trivial)
      have e1 := cells_of_block hX2 1 _ rfl
      simp only [Nat.zero_add] at e1
      obtain ⟨v', W3, hr3, ho3, hk3, g, cap, hv3, hg3, hl3'⟩ := app1 (P := Try.prog) el_ints 61 ob2 [.int .i64 (k : Int)] rfl (by simp [Value.oneCell']) (by omega) (by omega)
      subst hv3
      have hX3 := hk3.heap hX2 (fun e => by have := (World.ownsRow.lt hob X e.symm).1; omega)
      have d1 := cells_of_block hX3 1 _ rfl
      have d1f := box_free hX3 1
      simp only [Nat.zero_add] at d1
      have hl4 := heap_lt hX3
      obtain ⟨W4, hW4⟩ : ∃ W4, W3.setCell ⟨X, 1, none⟩ (.slice (some ⟨g, 0, none⟩) ((boundL K (argsL.take k)).length + 1) cap) = W4 := ⟨_, rfl⟩
      have kS : Keep (fun b => b ≠ X) W3 W4 := by rw [← hW4]; exact Keep.setCell _ _ _ (by simp)
      have hK4 : Keep (fun b => b < X) W0 W4 := (hK2.trans (hk3.mono fun b hb h e => by have := (World.ownsRow.lt ob2 b e.symm).1; omega)).trans (kS.mono fun b _ h => by omega)
      have hX4 := set_at 1 (.slice (some ⟨g, 0, none⟩) ((boundL K (argsL.take k)).length + 1) cap) hX3
      rw [hW4] at hX4
      simp only [List.setIfInBounds_toArray, List.set_cons_succ, List.set_cons_zero] at hX4
      have ob4 := own_kept ho3 kS (fun b hb => by have := (World.ownsRow.lt ho3 b hb).1; omega)
      have hgrow : openD K ⟨v, s⟩ = false → W4.ownsRow W0.heap.size 3 1 (.slice (some ⟨g, 0, none⟩) ((boundL K (argsL.take k)).length + 1) cap) (boundL K (argsL.take (k + 1))).length ((boundL K (argsL.take (k + 1))).map (.int .i64)) := fun h => by
        rw [hbs, h]
        simpa using ob4
      have hstay : openD K ⟨v, s⟩ = true → W1.ownsRow W0.heap.size 3 1 vb (boundL K (argsL.take (k + 1))).length ((boundL K (argsL.take (k + 1))).map (.int .i64)) := fun h => by
        rw [hbs, h]
        simpa using ob2
      rw [hop] at hgrow hstay
      obtain ⟨bi, hbi⟩ : ∃ b, decide (s ∈ K) = b := ⟨_, rfl⟩
      rw [hbi] at hgrow hstay hic
      clear q0 q1 hx hX1 hob hX3 ho3 hk3 kS ob4 hbs hop hbi hK ob2
      have Xkw := Lib.hid kw
      have XhW1 := Lib.hid hW1
      have Xk1 := Lib.hid k1
      have Xg1 := Lib.hid g1
      have Xhic := Lib.hid hic
      have XhX2 := Lib.hid hX2
      have Xhr3 := Lib.hid hr3
      have XhW4 := Lib.hid hW4
      have XhK4 := Lib.hid hK4
      have XhX4 := Lib.hid hX4
      have Xhgrow := Lib.hid hgrow
      have Xhstay := Lib.hid hstay
      have XhK2 := Lib.hid hK2
      clear kw hW1 k1 g1 hic hX2 hr3 hW4 hK4 hX4 hgrow hstay hK2
      cases v
      · have hr4 := Xhr3.out
        rw [← XhW1.out] at hr4
        simp only [World.size_alloc] at hr4
        have Xhr4 := Lib.hid hr4
        clear hr4
        go_wp2_with (at_builtin; refine go_app (v := vb) (u := .slice (some ⟨wr.heap.size + 1, 0, none⟩) 1 1) (v' := .slice (some ⟨g, 0, none⟩) ((boundL K (argsL.take k)).length + 1) cap) (w' := W3) rfl (.tmp 49) (.tmp 51) 61 rfl rfl rfl Xhr4.out ?_)
        rw [XhW4.out]
        go_roundw
        case rel => exact ⟨k + 1, _, by omega, by go_num, XhK4.out, XhX4.out, Xhgrow.out (by trivial)⟩
        case measure => simp [intOf]; omega
      · cases bi
        · go_wp2_with fail
          rw [XhW1.out]
          refine Xhic.out.mono ?_
          rintro e w9 ⟨rfl, hw9⟩; have hw9 := hw9.symm; subst hw9
          go_wp2_with fail
          go_roundw
          case rel => exact ⟨k + 1, _, by omega, by go_num, XhK2.out, XhX2.out, Xhstay.out (by trivial)⟩
          case measure => simp [intOf]; omega
        · go_wp2_with fail
          rw [XhW1.out]
          refine Xhic.out.mono ?_
          rintro e w9 ⟨rfl, hw9⟩; have hw9 := hw9.symm; subst hw9
          go_wp2_with (at_builtin; refine go_app (v := vb) (u := .slice (some ⟨W1.heap.size, 0, none⟩) 1 1) (v' := .slice (some ⟨g, 0, none⟩) ((boundL K (argsL.take k)).length + 1) cap) (w' := W3) rfl (.tmp 49) (.tmp 51) 61 rfl rfl rfl Xhr3.out ?_)
          rw [XhW4.out]
          go_roundw
          case rel => exact ⟨k + 1, _, by omega, by go_num, XhK4.out, XhX4.out, Xhgrow.out (by trivial)⟩
          case measure => simp [intOf]; omega
    · obtain rfl : k = N := by omega
      have hR := hK.heap Xa1.out (show w.heap.size + 1 < X by omega)
      have e0 := cells_of_block hR 0 _ rfl
      have e1 := cells_of_block hR 1 _ rfl
      have e2 := cells_of_block hR 2 _ rfl
      have e3 := box_free hR 0
      have e4 := box_free hR 1
      have e5 := box_free hR 2
      have x0 := cells_of_block hX1 0 _ rfl
      have x1 := cells_of_block hX1 1 _ rfl
      have x2 := cells_of_block hX1 2 _ rfl
      simp only [Nat.zero_add] at e0 e1 e2 x0 x1 x2
      have hlr : w.heap.size + 1 < wr.heap.size := by omega
      obtain ⟨avb, cvb, rfl⟩ := own_form hob
      have hstop : kd ≠ 3 → ¬ (k : Int) < argsL.length := fun h3 => by have := XhN4.out h3; omega
      by_cases h1 : kd = 1
      · have hNl := hstop (by omega)
        subst h1
        have hfr1 : freshL K (varsL argsL) = fr := by rw [← Xhfr.out]; rfl
        clear XhN3 XhN4 XhN Xhfr
        have hv := Xhvs.out wr kw
        have hvl := varsL_len argsL
        obtain ⟨vs, hvse⟩ : ∃ vs, varsL argsL = vs := ⟨_, rfl⟩
        rw [hvse] at hv hfr1 hvl
        clear hvse
        have hkv := kw
        clear hstop kw hK hlit
        have XhX1 := Lib.hid hX1
        have Xhob := Lib.hid hob
        have XhR := Lib.hid hR
        have Xhv := Lib.hid hv
        have Xhkv := Lib.hid hkv
        have Xhfr1 := Lib.hid hfr1
        clear hX1 hob hR hv hkv hfr1
        go_wp2_with fail
        refine Xhv.out.mono ?_
        rintro e Wv ⟨vv, rfl, hov, kv⟩
        have hzv := kv.size
        have hXv := kv.heap XhX1.out (by omega)
        have obv := own_kept Xhob.out kv (fun b hb => (World.ownsRow.lt Xhob.out b hb).2)
        have hRv := kv.heap XhR.out (by omega)
        have kwv : Keep (fun b => b < w.heap.size) w Wv := Xhkv.out.trans (kv.mono fun b _ h => by omega)
        obtain ⟨av, cv, rfl⟩ := own_form hov
        clear kv e0 e1 e2 e3 e4 e5 x0 x1 x2
        obtain ⟨b8, c8, e8, hl8, hc8, hel⟩ := own_strs hov (by omega)
        cases e8
        have XhXv := Lib.hid hXv
        have Xobv := Lib.hid obv
        have XhRv := Lib.hid hRv
        have Xkwv := Lib.hid kwv
        have Xhov := Lib.hid hov
        have Xhel := Lib.hid hel
        clear hXv obv hRv kwv hov hel
        go_wp2_with fail
        go_loopw [12] (fun i' wq => ∃ (k2 : Nat) (vn : Value), k2 ≤ vs.length ∧ i' = .int .i64 (k2 : Int) ∧ Keep (fun b => b ≠ X ∧ b < Wv.heap.size) Wv wq ∧ wq.heap[X]? = some (.cells #[.int .i64 (i : Int), .slice avb (boundL K (argsL.take k)).length cvb, vn] 73 (0, 0)) ∧
          wq.ownsRow Wv.heap.size 9 1 vn (freshL K (vs.take k2)).length ((freshL K (vs.take k2)).map .string)) (fun i _ => vs.length - (intOf i).toNat)
        case atStart => exact ⟨0, _, by omega, rfl, Keep.refl _ _, XhXv.out, World.ownsRow_nil _ _ _ _⟩
        case round =>
          obtain ⟨k2, vn, hk2, rfl, hK2, hX2, hon⟩ := hrel
          have hsz2 := hK2.size
          have hxl2 := heap_lt hX2
          have kw2 : Keep (fun b => b < w.heap.size) w wr := Xkwv.out.trans (hK2.mono fun b _ h => by omega)
          by_cases hlt2 : k2 < vs.length
          · have hlt3 : (k2 : Int) < vs.length := by omega
            have hk20 : (0 : Int) ≤ k2 := by omega
            obtain ⟨x, hx⟩ : ∃ x, vs[k2]? = some x := ⟨_, List.getElem?_eq_getElem hlt2⟩
            obtain ⟨b4, o4, rfl, hb4, q0⟩ := Xhel.out k2 x hx
            have hb4X : b4 ≠ X := by
              rintro rfl
              have := XhXv.out
              obtain ⟨cs, ht⟩ := own_typed Xhov.out (b := b4) rfl
              rw [this] at ht
              cases ht
            have f0 := hK2.cell q0 ⟨hb4X, hb4⟩
            simp only [Nat.mul_one] at f0
            have hb4w : b4 < wr.heap.size := by omega
            have hfs := freshL_snoc K vs hx
            have hic := Xhin.out x wr kw2
            obtain ⟨bi, hbi⟩ : ∃ b, decide (x ∈ K) = b := ⟨_, rfl⟩
            rw [hbi] at hfs hic
            have hfl : (freshL K (vs.take k2)).length ≤ vs.length := Nat.le_trans (List.length_filter_le _ _) (by rw [List.length_take]; omega)
            clear q0 hx hbi
            cases bi
            · simp only [Bool.false_eq_true, if_false] at hfs
              have hond : wr.drew.ownsRow Wv.heap.size 9 1 vn (freshL K (vs.take k2)).length ((freshL K (vs.take k2)).map .string) := own_kept hon (Keep.drew (fun _ => True) wr) (fun _ _ => trivial)
              obtain ⟨v', W3, hr3, ho3, hk3, g, cap, hv3, hg3, hl3'⟩ := app1 (P := Try.prog) el_strs 71 hond [.string x] rfl (by simp [Value.oneCell']) (by omega) (show Wv.heap.size ≤ wr.heap.size by omega)
              subst hv3
              replace hr3 : (Builtin.append_ #[71, 71] 71 #[vn, .slice (some ⟨wr.heap.size, 0, none⟩) 1 1]).run Try.prog (wr.alloc (.cells #[.string x] 9)).drew = .ok (.slice (some ⟨g, 0, none⟩) ((freshL K (vs.take k2)).length + 1) cap) W3 := hr3
              have hln : (freshL K (vs.take k2)).length + 1 = (freshL K (vs.take (k2 + 1))).length := by rw [hfs, List.length_append]; rfl
              rw [hln] at hr3 ho3
              rw [show (freshL K (vs.take k2)).map Value.string ++ [Value.string x] = (freshL K (vs.take (k2 + 1))).map .string from by rw [hfs, List.map_append]; rfl] at ho3
              have hX3 := hk3.heap (show wr.drew.heap[X]? = _ from hX2) (fun e => by have := (World.ownsRow.lt hon X e.symm).1; omega)
              have x2 := cells_of_block hX2 2 _ rfl
              have d1 := cells_of_block hX3 2 _ rfl
              have d1f := box_free hX3 2
              simp only [Nat.zero_add] at d1 x2
              have hl4 := heap_lt hX3
              obtain ⟨W4, hW4⟩ : ∃ W4, W3.setCell ⟨X, 2, none⟩ (.slice (some ⟨g, 0, none⟩) (freshL K (vs.take (k2 + 1))).length cap) = W4 := ⟨_, rfl⟩
              have kS : Keep (fun b => b ≠ X) W3 W4 := by rw [← hW4]; exact Keep.setCell _ _ _ (by simp)
              have hK4 : Keep (fun b => b ≠ X ∧ b < Wv.heap.size) Wv W4 := ((hK2.trans (Keep.drew _ _)).trans (hk3.mono fun b hb h e => by have := (World.ownsRow.lt hon b e.symm).1; omega)).trans (kS.mono fun b _ h => h.1)
              have hX4 := set_at 2 (.slice (some ⟨g, 0, none⟩) (freshL K (vs.take (k2 + 1))).length cap) hX3
              rw [hW4] at hX4
              simp only [List.setIfInBounds_toArray, List.set_cons_succ, List.set_cons_zero] at hX4
              have on4 := own_kept ho3 kS (fun b hb => by have := (World.ownsRow.lt ho3 b hb).1; omega)
              have new3 := And.intro d1 (hk3.cell (show wr.drew.cell? ⟨b4, o4 + k2, none⟩ = _ from f0) (fun e => by have := (World.ownsRow.lt hon b4 e.symm).1; omega))
              have old3 : (wr.alloc (.cells #[.string x] 9)).cell? ⟨X, 2, none⟩ = some vn := old_cell x2 _
              clear hX3 ho3 hk3 kS hK2 hX2 hon hond
              have XhK4 := Lib.hid hK4
              have XhX4 := Lib.hid hX4
              have Xon4 := Lib.hid on4
              have Xhfs := Lib.hid hfs
              have Xhic := Lib.hid hic
              have Xhr3 := Lib.hid hr3
              have XhW4 := Lib.hid hW4
              have Xkw2 := Lib.hid kw2
              clear hK4 hX4 on4 hfs hic hr3 hW4 kw2
              go_wp2_with fail
              refine Xhic.out.mono ?_
              rintro e w9 ⟨rfl, hw9⟩; have hw9 := hw9.symm; subst hw9
              go_wp2_with fail
              refine region_hoist rfl (fun W => W.cell? ⟨X, 2, none⟩ = some vn ∧ W.cell? ⟨b4, o4 + k2, none⟩ = some (.string x)) [9] ?_
              have XhS0 := Lib.hid (And.intro x2 f0)
              refine hoist_take (i := 0) (v := ?_) rfl (by kernel_rfl) (by kernel_rfl) (by kernel_rfl) (by kernel_rfl) (fun _ _ _ h => h) XhS0.out (Or.inl ⟨by rfl, ?_⟩) ?_
              rotate_left
              · intro Wq hWq
                obtain ⟨s0, s1⟩ := hWq
                go_simp
                try with_reducible rfl
              try simp only [Act.put, List.getElem_toArray, List.getElem_cons_zero, List.getElem_cons_succ, List.setIfInBounds_toArray, List.set_cons_zero, List.set_cons_succ]
              refine hoist_take (i := 1) (v := ?_) rfl (by kernel_rfl) (by kernel_rfl) (by kernel_rfl) (by kernel_rfl) (fun _ _ _ h => h) XhS0.out (Or.inl ⟨by rfl, ?_⟩) ?_
              rotate_left
              · intro Wq hWq
                obtain ⟨s0, s1⟩ := hWq
                go_simp
                try with_reducible rfl
              try simp only [Act.put, List.getElem_toArray, List.getElem_cons_zero, List.getElem_cons_succ, List.setIfInBounds_toArray, List.set_cons_zero, List.set_cons_succ]
              refine hoist_take (i := 2) (v := ?_) rfl (by kernel_rfl) (by kernel_rfl) (by kernel_rfl) (by kernel_rfl) (fun _ _ _ h => h) XhS0.out (Or.inl ⟨by rfl, ?_⟩) ?_
              rotate_left
              · intro Wq hWq
                obtain ⟨s0, s1⟩ := hWq
                go_simp
                try with_reducible rfl
              try simp only [Act.put, List.getElem_toArray, List.getElem_cons_zero, List.getElem_cons_succ, List.setIfInBounds_toArray, List.set_cons_zero, List.set_cons_succ]
              refine hoist_take (i := 3) (v := ?_) rfl (by kernel_rfl) (by kernel_rfl) (by kernel_rfl) (by kernel_rfl) (fun _ _ _ h => h) XhS0.out (Or.inl ⟨by rfl, ?_⟩) ?_
              rotate_left
              · intro Wq hWq
                obtain ⟨s0, s1⟩ := hWq
                go_simp
                try with_reducible rfl
              try simp only [Act.put, List.getElem_toArray, List.getElem_cons_zero, List.getElem_cons_succ, List.setIfInBounds_toArray, List.set_cons_zero, List.set_cons_succ]
              refine hoist_take (i := 4) (v := ?_) rfl (by kernel_rfl) (by kernel_rfl) (by kernel_rfl) (by kernel_rfl) (fun _ _ _ h => h) XhS0.out (Or.inl ⟨by rfl, ?_⟩) ?_
              rotate_left
              · intro Wq hWq
                obtain ⟨s0, s1⟩ := hWq
                go_simp
                try with_reducible rfl
              try simp only [Act.put, List.getElem_toArray, List.getElem_cons_zero, List.getElem_cons_succ, List.setIfInBounds_toArray, List.set_cons_zero, List.set_cons_succ]
              refine hoist_take (i := 5) (v := ?_) rfl (by kernel_rfl) (by kernel_rfl) (by kernel_rfl) (by kernel_rfl) (fun _ _ _ h => h) XhS0.out (Or.inl ⟨by rfl, ?_⟩) ?_
              rotate_left
              · intro Wq hWq
                obtain ⟨s0, s1⟩ := hWq
                go_simp
                try with_reducible rfl
              try simp only [Act.put, List.getElem_toArray, List.getElem_cons_zero, List.getElem_cons_succ, List.setIfInBounds_toArray, List.set_cons_zero, List.set_cons_succ]
              refine hoist_one (i := 6) rfl (by kernel_rfl) (fun KK hKK => ?_)
              have XhR0 := Lib.hid hKK
              clear hKK
              go_wp2_with fail
              refine XhR0.out _ _ (fun _ => ⟨old3, old_cell f0 _⟩) ?_
              refine hoist_one (i := 7) rfl (by kernel_rfl) (fun KK hKK => ?_)
              have XhR2 := Lib.hid hKK
              clear hKK
              simp only [List.getElem_toArray, List.getElem_cons_zero, List.getElem_cons_succ, Act.put, List.setIfInBounds_toArray, List.set_cons_zero, List.set_cons_succ]
              refine go_app (v := vn) (u := .slice (some ⟨wr.heap.size, 0, none⟩) 1 1) (v' := .slice (some ⟨g, 0, none⟩) (freshL K (vs.take (k2 + 1))).length cap) (w' := W3) rfl (.tmp 75) (.tmp 80) 71 rfl rfl rfl Xhr3.out ?_
              go_wp2_with fail
              refine XhR2.out _ _ (fun _ => new3) ?_
              refine hoist_one (i := 8) rfl (by kernel_rfl) (fun KK hKK => ?_)
              have XhR4 := Lib.hid hKK
              clear hKK
              go_wp2_with fail
              refine XhR4.out _ _ (fun _ => new3) ?_
              refine hoist_one (i := 9) rfl (by kernel_rfl) (fun KK hKK => ?_)
              have XhR5 := Lib.hid hKK
              clear hKK
              go_wp2_with fail
              refine XhR5.out _ _ (fun h => by simp at h) ?_
              refine hoist_done (by kernel_rfl) ?_
              clear XhS0 XhR0 XhR2 XhR4 XhR5 old3 d1 d1f new3
              rw [XhW4.out]
              go_wp2_with fail
              go_roundw
              case rel => exact ⟨k2 + 1, _, by omega, by go_num, XhK4.out, XhX4.out, Xon4.out⟩
              case measure => simp [intOf]; omega
            · simp only [if_true, List.append_nil] at hfs
              rw [← hfs] at hon
              have XhK2 := Lib.hid hK2
              have XhX2 := Lib.hid hX2
              have Xhon := Lib.hid hon
              have Xkw2 := Lib.hid kw2
              have Xhfs := Lib.hid hfs
              have Xhic := Lib.hid hic
              clear hK2 hX2 hon kw2 hfs hic
              go_wp2_with fail
              refine Xhic.out.mono ?_
              rintro e w9 ⟨rfl, hw9⟩; have hw9 := hw9.symm; subst hw9
              go_wp2_with fail
              go_roundw
              case rel => exact ⟨k2 + 1, _, by omega, by go_num, XhK2.out, XhX2.out, Xhon.out⟩
              case measure => simp [intOf]; omega
          · obtain rfl : k2 = vs.length := by omega
            rw [List.take_length] at hon
            have hR2 := hK2.heap XhRv.out (show w.heap.size + 1 ≠ X ∧ _ from ⟨by omega, by omega⟩)
            have e0 := cells_of_block hR2 0 _ rfl
            have e1 := cells_of_block hR2 1 _ rfl
            have e2 := cells_of_block hR2 2 _ rfl
            have e3 := box_free hR2 0
            have e4 := box_free hR2 1
            have e5 := box_free hR2 2
            have x0 := cells_of_block hX2 0 _ rfl
            have x1 := cells_of_block hX2 1 _ rfl
            have x2 := cells_of_block hX2 2 _ rfl
            simp only [Nat.zero_add] at e0 e1 e2 x0 x1 x2
            have hlr2 : w.heap.size + 1 < wr.heap.size := by omega
            obtain ⟨avn, cvn, rfl⟩ := own_form hon
            have ob2 := own_kept Xobv.out hK2 (fun b hb => by have := World.ownsRow.lt Xobv.out b hb; exact ⟨by omega, this.2⟩)
            have XhK2 := Lib.hid hK2
            have XhX2 := Lib.hid hX2
            have Xhon := Lib.hid hon
            have XhR2 := Lib.hid hR2
            have Xob2 := Lib.hid ob2
            have Xkw2 := Lib.hid kw2
            clear hK2 hX2 hon hR2 ob2 kw2
            go_wp2_with fail
            refine bodyPost_ret (v := .agg #[.int .i64 (i : Int), .slice avb (boundL K (argsL.take k)).length cvb, .slice avn (freshL K vs).length cvn]) (by simp [results, Try.results45, go_sem, e0, e1, e2, hlr2]) rfl ?_
            have kS : Keep (fun b => b ≠ w.heap.size + 1) wr (((wr.setCell ⟨w.heap.size + 1, 0, none⟩ (.int .i64 (i : Int))).setCell ⟨w.heap.size + 1, 1, none⟩ (.slice avb (boundL K (argsL.take k)).length cvb)).setCell ⟨w.heap.size + 1, 2, none⟩ (.slice avn (freshL K vs).length cvn)) :=
              ((Keep.setCell _ _ _ (by simp)).trans (Keep.setCell _ _ _ (by simp))).trans (Keep.setCell _ _ _ (by simp))
            have hov1 := (own_kept Xob2.out kS (fun b hb => by have := (World.ownsRow.lt Xob2.out b hb).1; omega)).mono (show w.heap.size ≤ W0.heap.size by omega)
            have hov2 := (own_kept Xhon.out kS (fun b hb => by have := (World.ownsRow.lt Xhon.out b hb).1; omega)).mono (show w.heap.size ≤ Wv.heap.size by omega)
            rw [← Xhfr1.out]
            exact ⟨_, _, rfl, hov1, hov2, Xkw2.out.trans (kS.mono fun b _ h => by omega)⟩
      · have hend : fr = [] := by rw [← Xhfr.out, if_neg h1]
        have hcond : (kd = 3) ∨ ((kd == 3) = false ∧ (kd != 3) = true ∧ (kd == 1) = false ∧ ¬ (k : Int) < argsL.length) := by
          by_cases h3 : kd = 3
          · exact .inl h3
          · exact .inr ⟨beq_eq_false_iff_ne.2 h3, bne_iff_ne.2 h3, beq_eq_false_iff_ne.2 h1, hstop h3⟩
        clear hlit hstop h1 XhN3 XhN4 XhN Xhfr
        have XhX1 := Lib.hid hX1
        have Xhob := Lib.hid hob
        have XhR := Lib.hid hR
        have Xkw := Lib.hid kw
        have XhK := Lib.hid hK
        have Xhend := Lib.hid hend
        clear hX1 hob hR kw hK hend
        rcases hcond with rfl | ⟨h13, h13b, h1b, hNl⟩
        all_goals go_wp2_with fail
        all_goals refine bodyPost_ret (v := .agg #[.int .i64 (i : Int), .slice avb (boundL K (argsL.take k)).length cvb, .slice none 0 0]) (by simp [results, Try.results45, go_sem, e0, e1, e2, hlr]) rfl ?_
        all_goals (
          have kS : Keep (fun b => b ≠ w.heap.size + 1) wr (((wr.setCell ⟨w.heap.size + 1, 0, none⟩ (.int .i64 (i : Int))).setCell ⟨w.heap.size + 1, 1, none⟩ (.slice avb (boundL K (argsL.take k)).length cvb)).setCell ⟨w.heap.size + 1, 2, none⟩ (.slice none 0 0)) :=
            ((Keep.setCell _ _ _ (by simp)).trans (Keep.setCell _ _ _ (by simp))).trans (Keep.setCell _ _ _ (by simp))
          rw [Xhend.out]
          exact ⟨_, _, rfl, (own_kept Xhob.out kS (fun b hb => by have := (World.ownsRow.lt Xhob.out b hb).1; omega)).mono (by omega), World.ownsRow_nil _ _ _ _, Xkw.out.trans (kS.mono fun b _ h => by omega)⟩)
end Go.Proofs
