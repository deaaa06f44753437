/- Layer 16 (plan): a literal's step behind known variables; what it makes known. -/
import Derived.Test.YtichfebfcapnhaaProg
import Derived.Test.YtichfebfcapnhaaPnFToPnG
import Derived.Test.YtichfebfcapnhaaPnHToPnI
import Derived.Test.YtichfebfcapnhaaPnJ
namespace Go.Proofs
open Go.RowKit Go.Ink
set_option linter.unusedVariables false
set_option linter.unusedSimpArgs false
attribute [local go_sem] Oper.semAt_some

theorem el_ints : ElemOf Try.prog 61 3 1 8 := elem_of (z := .int .i64 0) (by kernel_rfl) (by kernel_rfl) rfl (by decide) (by decide)
theorem el_strs : ElemOf Try.prog 71 9 1 16 := elem_of (z := .string ⟨#[]⟩) (by kernel_rfl) (by kernel_rfl) rfl (by decide) (by decide)

/-- the columns that are known ahead -/
def boundL (K : List ByteArray) (ts : List TermD) : List Int := (ts.zipIdx.filter fun p => !openD K p.1).map fun p => (p.2 : Int)
/-- the variables that come to be known -/
def newL (K : List ByteArray) (ts : List TermD) : List ByteArray := onceL ((ts.filter (openD K)).map (·.text))
theorem boundL_snoc (K : List ByteArray) (ts : List TermD) {k : Nat} {t : TermD} (h : ts[k]? = some t) : boundL K (ts.take (k + 1)) = boundL K (ts.take k) ++ if openD K t then [] else [(k : Int)] := by
  have hl : (ts.take k).length = k := by rw [List.length_take]; have := (List.getElem?_eq_some_iff.1 h).1; omega
  unfold boundL
  rw [List.take_add_one, h, List.zipIdx_append, List.filter_append, List.map_append, hl]
  simp only [Option.toList_some, List.zipIdx_cons, List.zipIdx_nil, List.filter_cons, List.filter_nil]
  cases openD K t <;> simp
theorem newL_snoc (K : List ByteArray) (ts : List TermD) {k : Nat} {t : TermD} (h : ts[k]? = some t) : newL K (ts.take (k + 1)) = if openD K t then (if t.text ∈ newL K (ts.take k) then newL K (ts.take k) else newL K (ts.take k) ++ [t.text]) else newL K (ts.take k) := by
  unfold newL
  rw [List.take_add_one, h, List.filter_append, List.map_append]
  simp only [Option.toList_some, List.filter_cons, List.filter_nil]
  cases openD K t
  · simp
  · simp [onceL_snoc]
theorem boundL_len (K : List ByteArray) (ts : List TermD) : (boundL K ts).length ≤ ts.length := by
  unfold boundL
  rw [List.length_map]
  refine Nat.le_trans (List.length_filter_le _ _) ?_
  rw [List.length_zipIdx]; exact Nat.le_refl _
theorem newL_len (K : List ByteArray) (ts : List TermD) : (newL K ts).length ≤ ts.length := by
  unfold newL
  refine Nat.le_trans (onceL_len _) ?_
  rw [List.length_map]
  exact List.length_filter_le _ _

structure StepD where
  lit : Int
  bound : List Int
  new : List ByteArray
  deriving DecidableEq, Inhabited
/-- a literal's step -/
def stepP (K : List ByteArray) (L : LitD) (i : Int) : StepD := if L.kind = 3 then ⟨i, [], []⟩ else ⟨i, boundL K L.atom.args, newL K L.atom.args⟩
def stepV (s : StepD) (bv nv : Value) : Value := .agg #[.int .i64 s.lit, bv, nv]
/-- what is known behind it -/
def learnP (K : List ByteArray) (new : List ByteArray) : List ByteArray := new.foldl (fun acc x => if x ∈ acc then acc else acc ++ [x]) K
theorem learnP_snoc (K l : List ByteArray) {k : Nat} {x : ByteArray} (h : l[k]? = some x) : learnP K (l.take (k + 1)) = if x ∈ learnP K (l.take k) then learnP K (l.take k) else learnP K (l.take k) ++ [x] := by
  unfold learnP
  rw [List.take_add_one, h, List.foldl_append]
  rfl
theorem not_map {w : World} {M : Nat} {K : List ByteArray} (hS : SetIn w M K) {b o : Nat} {v : Value} (h : w.cell? ⟨b, o, none⟩ = some v) : b ≠ M := by
  rintro rfl
  obtain ⟨es, c, h1, -⟩ := hS
  simp [World.cell?, h1] at h

set_option maxRecDepth 100000 in
theorem learn_any (n M : Nat) (K : List ByteArray) (s : StepD) (bv nv : Value) (w : World) (hS : SetIn w M K) (hn : StrsIn n w nv s.new) (hnw : n ≤ w.heap.size) :
    Calls Try.prog 42 #[.map (some M), stepV s bv nv] w fun e w' => e = .returned (.tuple #[]) ∧ SetIn w' M (learnP K s.new) ∧ Keep (fun b => b ≠ M) w w' := by
  obtain ⟨i, bd, new⟩ := s
  unfold stepV
  simp only at hn ⊢
  obtain ⟨a, c, rfl, hlen, hcap, hel⟩ := id hn
  have hM := hS.lt
  clear hn
  have Xhel := Lib.hid hel
  have XhS := Lib.hid hS
  clear hel hS
  go_enter Try.func42, Try.ntmps42
  go_wp2_with fail
  go_loopw [9] (fun i wr => ∃ k : Nat, k ≤ new.length ∧ i = .int .i64 (k : Int) ∧ Keep (fun b => b ≠ M) w wr ∧ SetIn wr M (learnP K (new.take k))) (fun i _ => new.length - (intOf i).toNat)
  case atStart => exact ⟨0, by omega, rfl, Keep.alloc _ _ _, XhS.out.keep (Keep.alloc (fun _ => True) _ _) trivial⟩
  case round =>
    obtain ⟨k, hk, rfl, hK, hs⟩ := hrel
    have hsz := hK.size
    by_cases hlt : k < new.length
    · have hlt1 : (k : Int) < new.length := by omega
      have hk0 : (0 : Int) ≤ k := by omega
      obtain ⟨x, hx⟩ : ∃ x, new[k]? = some x := ⟨_, List.getElem?_eq_getElem hlt⟩
      obtain ⟨b, o, rfl, hb, f1⟩ := Xhel.out k x hx
      have hbM := not_map XhS.out f1
      have f2 := hK.cell f1 hbM
      simp only [Nat.mul_one] at f2
      have hbw : b < wr.heap.size := by omega
      obtain ⟨W1, hr1, hs1, hk1, hz1⟩ := run_update_set (P := Try.prog) (T := 86) (K := 9) (E := 4) Try.underlying86 Try.underlying9 hs x
      rw [← learnP_snoc K new hx] at hs1
      have hK1 := hK.trans hk1
      clear f1 hk1 hx hs hz1
      have XhK := Lib.hid hK
      have Xhs1 := Lib.hid hs1
      have XhK1 := Lib.hid hK1
      clear hK hs1 hK1
      go_wp2_with fail
      go_roundw
      case rel => exact ⟨k + 1, by omega, by go_num, XhK1.out, Xhs1.out⟩
      case measure => simp [intOf]; omega
    · obtain rfl : k = new.length := by omega
      rw [List.take_length] at hs
      have XhK := Lib.hid hK
      have Xhs := Lib.hid hs
      clear hK hs
      go_wp2_with fail
      refine bodyPost_end (results_none rfl _ _ _) rfl ?_
      exact ⟨rfl, Xhs.out, XhK.out⟩

/-- of what type a row's block is -/
theorem own_typed {w : World} {base : Nat} {e : TypeId} {sz n : Nat} {v : Value} {xs : List Value} (h : w.ownsRow base e sz v n xs) {b : Nat} (hb : v.ownBlock = some b) : ∃ cs, w.heap[b]? = some (.cells cs e (0, 0)) := by
  rcases h.2 with ⟨rfl, _⟩ | ⟨g, cap, cur, rfl, _, hg, _⟩
  · simp [Value.ownBlock] at hb
  · simp [Value.ownBlock] at hb
    subst hb
    exact ⟨_, hg⟩

set_option maxRecDepth 100000 in
set_option maxHeartbeats 1000000 in
theorem step_any (n M : Nat) (K : List ByteArray) (r : RuleD) (sh sb : Value) (i : Nat) (L : LitD) (hL : r.body[i]? = some L) (w : World) (hS : SetIn w M K) (hr : RuleIn n w sh sb r) (hn : n ≤ w.heap.size) :
    Calls Try.prog 41 #[.map (some M), ruleV r sh sb, .int .i64 (i : Int)] w fun e w' => ∃ vb vn, e = .returned (.agg #[.int .i64 (i : Int), vb, vn]) ∧
      w'.ownsRow w.heap.size 3 1 vb (stepP K L i).bound.length ((stepP K L i).bound.map (.int .i64)) ∧ w'.ownsRow w.heap.size 9 1 vn (stepP K L i).new.length ((stepP K L i).new.map .string) ∧ Keep (fun b => b < w.heap.size) w w' := by
  obtain ⟨⟨pr, args⟩, body⟩ := r
  obtain ⟨hh, hb⟩ := hr
  unfold ruleV
  simp only at hh hb hL ⊢
  have hM := hS.lt
  obtain ⟨ah, ch, rfl, -, -, -⟩ := id hh
  obtain ⟨ab, cb, rfl, hlb, hcb, heb⟩ := id hb
  obtain ⟨b, o, rfl, hbn, sa, hcl, hsa⟩ := heb i L hL
  obtain ⟨aa, ca, rfl, hla, hca, hea⟩ := id hsa
  have hi : i < body.length := (List.getElem?_eq_some_iff.1 hL).1
  have hi1 : (i : Int) < body.length := by omega
  have hi0 : (0 : Int) ≤ i := by omega
  have hbw : b < w.heap.size := by omega
  have hbw1 : b < w.heap.size + 1 := by omega
  have hbw2 : b < w.heap.size + 1 + 1 := by omega
  have d0 := hcl 0 _ rfl
  have d1 := hcl 1 _ rfl
  have d2 := hcl 2 _ rfl
  have d3 := hcl 3 _ rfl
  have d4 := hcl 4 _ rfl
  have d5 := hcl 5 _ rfl
  have d6 := hcl 6 _ rfl
  simp only [Nat.add_zero] at d0
  clear hcl hh hb hL
  obtain ⟨kd, ⟨prL, argsL⟩, ⟨lv, lt⟩, ⟨rv, rt⟩⟩ := L
  simp only at d0 d1 d2 d3 d4 d5 d6 hsa hla hca hea ⊢
  by_cases h3 : kd = 3
  · have hE : stepP K ⟨kd, ⟨prL, argsL⟩, ⟨lv, lt⟩, ⟨rv, rt⟩⟩ i = ⟨i, [], []⟩ := by unfold stepP; rw [if_pos h3]
    subst h3
    rw [hE]
    clear hsa hea
    have XhS := Lib.hid hS
    have XhE := Lib.hid hE
    clear hS hE
    go_enter Try.func41, Try.ntmps41
    go_wp2_with fail
    refine bodyPost_ret (v := .agg #[.int .i64 (i : Int), .slice none 0 0, .slice none 0 0]) (by simp [results, Try.results41, go_sem]) rfl ?_
    exact ⟨_, _, rfl, World.ownsRow_nil _ _ _ _, World.ownsRow_nil _ _ _ _, (((Keep.alloc _ _ _).trans (Keep.alloc _ _ _)).trans (Keep.alloc _ _ _)).trans (Keep.alloc _ _ _)⟩
  · have hE : stepP K ⟨kd, ⟨prL, argsL⟩, ⟨lv, lt⟩, ⟨rv, rt⟩⟩ i = ⟨i, boundL K argsL, newL K argsL⟩ := by unfold stepP; rw [if_neg h3]
    rw [hE]
    have ho := fun t W (h : SetIn W M K) => open_any M K t W h
    have h3b : (kd == 3) = false := beq_eq_false_iff_ne.2 h3
    clear heb h3
    have XhS := Lib.hid hS
    have XhE := Lib.hid hE
    have Xhea := Lib.hid hea
    have Xho := Lib.hid ho
    clear hS hE hea ho
    go_enter Try.func41, Try.ntmps41
    go_wp2_with fail
    refine wp_abs (fun W => Keep (fun b => b < w.heap.size) w W ∧ W.heap.size = w.heap.size + 1 + 1 + 1 + 1 ∧ W.heap[w.heap.size + 1]? = some (.cells #[.int .i64 0, .slice none 0 0, .slice none 0 0] 73 (0, 0)) ∧
      W.heap[w.heap.size + 1 + 1]? = some (.cells #[.int .i64 (i : Int), .slice none 0 0, .slice none 0 0] 73 (0, 0))) ⟨(((Keep.alloc _ _ _).trans (Keep.alloc _ _ _)).trans (Keep.alloc _ _ _)).trans (Keep.alloc _ _ _), by simp, by simp only [alloc_get, World.size_alloc]; simp, by simp only [alloc_get, World.size_alloc]; simp⟩ ?_
    rintro W0 ⟨k0, z0, a1, a2⟩
    have Xk0 := Lib.hid k0
    have Xa1 := Lib.hid a1
    have Xa2 := Lib.hid a2
    clear k0 a1 a2
    go_loopw [26] (fun i' wr => ∃ (k : Nat) (vb vn : Value), k ≤ argsL.length ∧ i' = .int .i64 (k : Int) ∧ Keep (fun b => b < w.heap.size + 1 + 1) W0 wr ∧ wr.heap[w.heap.size + 1 + 1]? = some (.cells #[.int .i64 (i : Int), vb, vn] 73 (0, 0)) ∧
      wr.ownsRow W0.heap.size 3 1 vb (boundL K (argsL.take k)).length ((boundL K (argsL.take k)).map (.int .i64)) ∧ wr.ownsRow W0.heap.size 9 1 vn (newL K (argsL.take k)).length ((newL K (argsL.take k)).map .string)) (fun i _ => argsL.length - (intOf i).toNat)
    case atStart => exact ⟨0, _, _, by omega, rfl, Keep.refl _ _, Xa2.out, World.ownsRow_nil _ _ _ _, World.ownsRow_nil _ _ _ _⟩
    case round =>
      obtain ⟨k, vb, vn, hk, rfl, hK, hX, hob, hon⟩ := hrel
      have hsz := hK.size
      have hxl := heap_lt hX
      by_cases hlt : k < argsL.length
      · have hlt1 : (k : Int) < argsL.length := by omega
        have hk0 : (0 : Int) ≤ k := by omega
        obtain ⟨x, hx⟩ : ∃ x, argsL[k]? = some x := ⟨_, List.getElem?_eq_getElem hlt⟩
        obtain ⟨b4, o4, rfl, hb4, q0, q1⟩ := Xhea.out k x hx
        have kw : Keep (fun b => b < w.heap.size) w wr := Xk0.out.trans (hK.mono fun b _ h => by omega)
        have f0 := kw.cell q0 (show b4 < w.heap.size by omega)
        have f1 := kw.cell q1 (show b4 < w.heap.size by omega)
        have hb4w : b4 < wr.heap.size := by omega
        obtain ⟨W1, hW1⟩ : ∃ W1, wr.alloc (.cells #[.bool x.var, .string x.text] 76) = W1 := ⟨_, rfl⟩
        have k1 : Keep (fun _ => True) wr W1 := by rw [← hW1]; exact Keep.alloc _ _ _
        have g1 : W1.heap[wr.heap.size]? = some (.cells #[.bool x.var, .string x.text] 76 (0, 0)) := by rw [← hW1]; exact new_block _ _
        have hz1 := k1.size
        have hbs := boundL_snoc K argsL hx
        have hns := newL_snoc K argsL hx
        have hoc := Xho.out x W1 (XhS.out.keep (kw.trans (k1.mono fun _ _ _ => trivial)) hM)
        unfold termV at hoc
        obtain ⟨bo, hbo⟩ : ∃ b, openD K x = b := ⟨_, rfl⟩
        rw [hbo] at hbs hns hoc
        have hl1 := boundL_len K (argsL.take k)
        have hl2 := newL_len K (argsL.take k)
        rw [List.length_take] at hl1 hl2
        clear q0 q1 hbo hx
        have XhK := Lib.hid hK
        have XhX := Lib.hid hX
        have Xhob := Lib.hid hob
        have Xhon := Lib.hid hon
        have Xkw := Lib.hid kw
        have XhW1 := Lib.hid hW1
        have Xk1 := Lib.hid k1
        have Xg1 := Lib.hid g1
        have Xhbs := Lib.hid hbs
        have Xhns := Lib.hid hns
        have Xhoc := Lib.hid hoc
        clear hK hX hob hon kw hW1 k1 g1 hbs hns hoc
        go_wp2_with fail
        rw [XhW1.out]
        refine Xhoc.out.mono ?_
        rintro e W2 ⟨rfl, k2⟩
        have hz2 := k2.size
        have kr2 : Keep (fun _ => True) wr W2 := Xk1.out.trans k2
        have hX2 := kr2.heap XhX.out trivial
        have ob2 := own_kept Xhob.out kr2 (fun _ _ => trivial)
        have on2 := own_kept Xhon.out kr2 (fun _ _ => trivial)
        have hl3 : w.heap.size + 1 + 1 < W2.heap.size := by omega
        have hK2 : Keep (fun b => b < w.heap.size + 1 + 1) W0 W2 := XhK.out.trans (kr2.mono fun _ _ _ => trivial)
        have hX2n : ∀ b, (Value.ownBlock vb = some b ∨ Value.ownBlock vn = some b) → b ≠ w.heap.size + 1 + 1 := fun b hb => by
          rcases hb with hb | hb
          · have := (World.ownsRow.lt Xhob.out b hb).1; omega
          · have := (World.ownsRow.lt Xhon.out b hb).1; omega
        have hbs := Xhbs.out
        have hns := Xhns.out
        have c1 := cells_of_block hX2 1 _ rfl
        have c2 := cells_of_block hX2 2 _ rfl
        simp only [Nat.zero_add] at c1 c2
        cases bo
        · simp only [Bool.false_eq_true, if_false] at hbs hns
          obtain ⟨v', W3, hr3, ho3, hk3, g, cap, hv3, hg3, hl3'⟩ := app1 (P := Try.prog) el_ints 61 ob2 [.int .i64 (k : Int)] rfl (by simp [Value.oneCell']) (by omega) (by omega)
          subst hv3
          have hX3 := hk3.heap hX2 (fun e => hX2n _ (.inl e.symm) rfl)
          have on3 := own_kept on2 hk3 (fun b hb e => by
            obtain ⟨c1, t1⟩ := own_typed ob2 e.symm
            obtain ⟨c2, t2⟩ := own_typed on2 hb
            rw [t1] at t2
            cases t2)
          have d1 := cells_of_block hX3 1 _ rfl
          have d1f := box_free hX3 1
          simp only [Nat.zero_add] at d1
          have hl4 := heap_lt hX3
          have hK3 : Keep (fun b => b < w.heap.size + 1 + 1) W0 (W3.setCell ⟨w.heap.size + 1 + 1, 1, none⟩ (.slice (some ⟨g, 0, none⟩) ((boundL K (argsL.take k)).length + 1) cap)) :=
            (hK2.trans (hk3.mono fun b hb h e => by have := (World.ownsRow.lt ob2 b e.symm).1; omega)).trans (Keep.setCell _ _ _ (by simp))
          have kS : Keep (fun b => b ≠ w.heap.size + 1 + 1) W3 (W3.setCell ⟨w.heap.size + 1 + 1, 1, none⟩ (.slice (some ⟨g, 0, none⟩) ((boundL K (argsL.take k)).length + 1) cap)) := Keep.setCell _ _ _ (by simp)
          have hX4 := set_at 1 (.slice (some ⟨g, 0, none⟩) ((boundL K (argsL.take k)).length + 1) cap) hX3
          have ob4 := own_kept ho3 kS (fun b hb => by have := (World.ownsRow.lt ho3 b hb).1; omega)
          have on4 := own_kept on3 kS (fun b hb => by have := (World.ownsRow.lt on3 b hb).1; omega)
          rw [show (boundL K (argsL.take k)).map (Value.int .i64) ++ [Value.int .i64 (k : Int)] = (boundL K (argsL.take (k + 1))).map (.int .i64) from by rw [hbs, List.map_append]; rfl, show (boundL K (argsL.take k)).length + 1 = (boundL K (argsL.take (k + 1))).length from by rw [hbs, List.length_append]; rfl] at ob4
          rw [← hns] at on4
          rw [show (boundL K (argsL.take k)).length + 1 = (boundL K (argsL.take (k + 1))).length from by rw [hbs, List.length_append]; rfl] at hX4 hK3 hr3
          simp only [List.setIfInBounds_toArray, List.set_cons_succ, List.set_cons_zero] at hX4
          obtain ⟨W4, hW4⟩ : ∃ W4, W3.setCell ⟨w.heap.size + 1 + 1, 1, none⟩ (.slice (some ⟨g, 0, none⟩) (boundL K (argsL.take (k + 1))).length cap) = W4 := ⟨_, rfl⟩
          rw [show (boundL K (argsL.take k)).length + 1 = (boundL K (argsL.take (k + 1))).length from by rw [hbs, List.length_append]; rfl] at on4
          rw [hW4] at hX4 hK3 ob4 on4
          clear kS k2 kr2 ob2 on2 ho3 hk3 on3 hX3 hX2 hX2n hK2
          have Xhr3 := Lib.hid hr3
          have XhX4 := Lib.hid hX4
          have XhK3 := Lib.hid hK3
          have Xob4 := Lib.hid ob4
          have Xon4 := Lib.hid on4
          have Xhbs := Lib.hid hbs
          have Xhns := Lib.hid hns
          have XhW4 := Lib.hid hW4
          clear hr3 hX4 hK3 ob4 on4 hbs hns hW4
          go_wp2_with (at_builtin; refine go_app (v := vb) (u := .slice (some ⟨W2.heap.size, 0, none⟩) 1 1) (v' := .slice (some ⟨g, 0, none⟩) (boundL K (argsL.take (k + 1))).length cap) (w' := W3) rfl (.tmp 36) (.tmp 38) 61 rfl rfl rfl Xhr3.out ?_)
          rw [XhW4.out]
          go_roundw
          case rel => exact ⟨k + 1, _, _, by omega, by go_num, XhK3.out, XhX4.out, Xob4.out, Xon4.out⟩
          case measure => simp [intOf]; omega
        · simp only [if_true, List.append_nil] at hbs hns
          have hct := contains_any W2.heap.size vn (newL K (argsL.take k)) x.text W2 (own_strs on2 (by omega)) (Nat.le_refl _)
          have hg2 := k2.heap Xg1.out trivial
          have t1 := cells_of_block hg2 1 _ rfl
          simp only [Nat.zero_add] at t1
          obtain ⟨bi, hbi⟩ : ∃ b, decide (x.text ∈ newL K (argsL.take k)) = b := ⟨_, rfl⟩
          rw [hbi] at hct
          have hl5 : wr.heap.size < W2.heap.size := heap_lt hg2
          cases bi
          · have hni : ¬ x.text ∈ newL K (argsL.take k) := of_decide_eq_false hbi
            rw [if_neg hni] at hns
            obtain ⟨v', W3, hr3, ho3, hk3, g, cap, hv3, hg3, hl3'⟩ := app1 (P := Try.prog) el_strs 71 on2 [.string x.text] rfl (by simp [Value.oneCell']) (by omega) (by omega)
            subst hv3
            have hX3 := hk3.heap hX2 (fun e => hX2n _ (.inr e.symm) rfl)
            have ob3 := own_kept ob2 hk3 (fun b hb e => by
              obtain ⟨c1, t1⟩ := own_typed on2 e.symm
              obtain ⟨c2, t2⟩ := own_typed ob2 hb
              rw [t1] at t2
              cases t2)
            have d1 := cells_of_block hX3 2 _ rfl
            have d1f := box_free hX3 2
            simp only [Nat.zero_add] at d1
            have hl4 := heap_lt hX3
            have hln : (newL K (argsL.take k)).length + 1 = (newL K (argsL.take (k + 1))).length := by rw [hns, List.length_append]; rfl
            rw [hln] at hr3 ho3
            rw [show (newL K (argsL.take k)).map Value.string ++ [Value.string x.text] = (newL K (argsL.take (k + 1))).map .string from by rw [hns, List.map_append]; rfl] at ho3
            rw [← hbs] at ob3
            obtain ⟨W4, hW4⟩ : ∃ W4, W3.setCell ⟨w.heap.size + 1 + 1, 2, none⟩ (.slice (some ⟨g, 0, none⟩) (newL K (argsL.take (k + 1))).length cap) = W4 := ⟨_, rfl⟩
            have kS : Keep (fun b => b ≠ w.heap.size + 1 + 1) W3 W4 := by rw [← hW4]; exact Keep.setCell _ _ _ (by simp)
            have hK3 : Keep (fun b => b < w.heap.size + 1 + 1) W0 W4 :=
              (hK2.trans (hk3.mono fun b hb h e => by have := (World.ownsRow.lt on2 b e.symm).1; omega)).trans (kS.mono fun b _ h => by omega)
            have hX4 := set_at 2 (.slice (some ⟨g, 0, none⟩) (newL K (argsL.take (k + 1))).length cap) hX3
            have on4 := own_kept ho3 kS (fun b hb => by have := (World.ownsRow.lt ho3 b hb).1; omega)
            have ob4 := own_kept ob3 kS (fun b hb => by have := (World.ownsRow.lt ob3 b hb).1; omega)
            rw [hW4] at hX4
            simp only [List.setIfInBounds_toArray, List.set_cons_succ, List.set_cons_zero] at hX4
            clear kS k2 kr2 ob2 on2 ho3 hk3 ob3 hX3 hX2 hX2n hK2 hbi hg2
            have Xhr3 := Lib.hid hr3
            have XhX4 := Lib.hid hX4
            have XhK3 := Lib.hid hK3
            have Xob4 := Lib.hid ob4
            have Xon4 := Lib.hid on4
            have Xhbs := Lib.hid hbs
            have Xhns := Lib.hid hns
            have XhW4 := Lib.hid hW4
            have Xhct := Lib.hid hct
            have Xhni := Lib.hid hni
            clear hr3 hX4 hK3 ob4 on4 hbs hns hW4 hct hni
            go_wp2_with fail
            refine Xhct.out.mono ?_
            rintro e w9 ⟨rfl, hw9⟩
            have hw9 := hw9.symm
            subst hw9
            go_wp2_with (at_builtin; refine go_app (v := vn) (u := .slice (some ⟨W2.heap.size, 0, none⟩) 1 1) (v' := .slice (some ⟨g, 0, none⟩) (newL K (argsL.take (k + 1))).length cap) (w' := W3) rfl (.tmp 48) (.tmp 51) 71 rfl rfl rfl Xhr3.out ?_)
            rw [XhW4.out]
            go_roundw
            case rel => exact ⟨k + 1, _, _, by omega, by go_num, XhK3.out, XhX4.out, Xob4.out, Xon4.out⟩
            case measure => simp [intOf]; omega
          · have hni : x.text ∈ newL K (argsL.take k) := of_decide_eq_true hbi
            rw [if_pos hni] at hns
            rw [← hbs] at ob2
            rw [← hns] at on2
            clear k2 kr2 hX2n hbi hg2
            have XhX2 := Lib.hid hX2
            have Xob2 := Lib.hid ob2
            have Xon2 := Lib.hid on2
            have XhK2 := Lib.hid hK2
            have Xhbs := Lib.hid hbs
            have Xhns := Lib.hid hns
            have Xhct := Lib.hid hct
            have Xhni := Lib.hid hni
            clear hX2 ob2 on2 hK2 hbs hns hct hni
            go_wp2_with fail
            refine Xhct.out.mono ?_
            rintro e w9 ⟨rfl, hw9⟩
            have hw9 := hw9.symm
            subst hw9
            go_wp2_with fail
            go_roundw
            case rel => exact ⟨k + 1, _, _, by omega, by go_num, XhK2.out, XhX2.out, Xob2.out, Xon2.out⟩
            case measure => simp [intOf]; omega
      · obtain rfl : k = argsL.length := by omega
        rw [List.take_length] at hob hon
        have hR := hK.heap Xa1.out (show w.heap.size + 1 < w.heap.size + 1 + 1 by omega)
        have c0 := cells_of_block hX 0 _ rfl
        have c1 := cells_of_block hX 1 _ rfl
        have c2 := cells_of_block hX 2 _ rfl
        have e0 := cells_of_block hR 0 _ rfl
        have e1 := cells_of_block hR 1 _ rfl
        have e2 := cells_of_block hR 2 _ rfl
        have e3 := box_free hR 0
        have e4 := box_free hR 1
        have e5 := box_free hR 2
        simp only [Nat.zero_add] at c0 c1 c2 e0 e1 e2
        have hlr : w.heap.size + 1 < wr.heap.size := by omega
        obtain ⟨avb, cvb, rfl⟩ := own_form hob
        obtain ⟨avn, cvn, rfl⟩ := own_form hon
        have XhK := Lib.hid hK
        have XhX := Lib.hid hX
        have Xhob := Lib.hid hob
        have Xhon := Lib.hid hon
        have XhR := Lib.hid hR
        clear hK hX hob hon hR
        go_wp2_with fail
        refine bodyPost_ret (v := .agg #[.int .i64 (i : Int), .slice avb (boundL K argsL).length cvb, .slice avn (newL K argsL).length cvn]) (by simp [results, Try.results41, go_sem, e0, e1, e2, hlr]) rfl ?_
        have kS : Keep (fun b => b ≠ w.heap.size + 1) wr (((wr.setCell ⟨w.heap.size + 1, 0, none⟩ (.int .i64 (i : Int))).setCell ⟨w.heap.size + 1, 1, none⟩ (.slice avb (boundL K argsL).length cvb)).setCell ⟨w.heap.size + 1, 2, none⟩ (.slice avn (newL K argsL).length cvn)) :=
          ((Keep.setCell _ _ _ (by simp)).trans (Keep.setCell _ _ _ (by simp))).trans (Keep.setCell _ _ _ (by simp))
        exact ⟨_, _, rfl, (own_kept Xhob.out kS (fun b hb => by have := (World.ownsRow.lt Xhob.out b hb).1; omega)).mono (by omega), (own_kept Xhon.out kS (fun b hb => by have := (World.ownsRow.lt Xhon.out b hb).1; omega)).mono (by omega),
          (Xk0.out.trans (XhK.out.mono fun b _ h => by omega)).trans (kS.mono fun b _ h => by omega)⟩
end Go.Proofs
