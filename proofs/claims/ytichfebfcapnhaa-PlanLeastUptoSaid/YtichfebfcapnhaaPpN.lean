/- Layer 16 (plan): the document's next: which literal is looked at next. -/
import Derived.Test.YtichfebfcapnhaaProg
import Derived.Test.YtichfebfcapnhaaPpL
import Derived.Test.YtichfebfcapnhaaPnX
import Derived.Deep.RegionHeld3
namespace Go.Proofs
open Go.RowKit Go.Ink Go.Flt
set_option linter.unusedVariables false
set_option linter.unusedSimpArgs false
attribute [local go_sem] Oper.semAt_some

/-- a test that may be looked at -/
def testB (K : List ByteArray) (ls : List LitD) (tk : List Bool) (i : Nat) : Bool := !tk.getD i true && (decide ((ls.getD i default).kind ≠ 1) && readyP K (ls.getD i default))
theorem scan_no_test {K : List ByteArray} {rows : Nat} {sizes : List SizeD} {ls : List LitD} {tk : List Bool} (i : Nat) (h : ∀ j, j < i → testB K ls tk j = false) : (scan K rows sizes ls tk i).2.2 = false := by
  induction i with
  | zero => rfl
  | succ i ih =>
    have ih := ih (fun j hj => h j (by omega))
    have hi := h i (by omega)
    unfold testB at hi
    simp only [scan, ih, Bool.false_eq_true, if_false]
    by_cases ht : tk.getD i true = true
    · rw [if_pos ht]; exact ih
    · rw [if_neg ht]
      rw [Bool.not_eq_true] at ht
      rw [ht, Bool.not_false, Bool.true_and] at hi
      by_cases hk : (ls.getD i default).kind ≠ 1
      · rw [if_pos hk]
        rw [decide_eq_true hk, Bool.true_and] at hi
        rw [hi]
        exact ih
      · rw [if_neg hk]
        split
        · rfl
        · exact ih
theorem scan_at_test {K : List ByteArray} {rows : Nat} {sizes : List SizeD} {ls : List LitD} {tk : List Bool} {i n : Nat} (h : ∀ j, j < i → testB K ls tk j = false) (hi : testB K ls tk i = true) (hin : i < n) : (scan K rows sizes ls tk n).1 = (i : Int) := by
  have h0 := scan_no_test (rows := rows) (sizes := sizes) i h
  unfold testB at hi
  rw [Bool.and_eq_true, Bool.and_eq_true, Bool.not_eq_true', decide_eq_true_eq] at hi
  have h1 : scan K rows sizes ls tk (i + 1) = ((i : Int), (scan K rows sizes ls tk i).2.1, true) := by
    rw [scan_test h0 hi.1 rfl hi.2.1, hi.2.2]; rfl
  rw [scan_done (by rw [h1]) n (by omega), h1]

set_option maxRecDepth 100000 in
set_option maxHeartbeats 2000000 in
theorem refNext_any (n : Nat) (r : RuleD) (sh sb : Value) (T : Nat) (tk : List Bool) (K : List ByteArray) (vk : Value) (rows : Nat) (hrows : rows ≤ 9094988921128908188) (l : List SizeD) (hU : usableB l = true) (sv : Value) (w : World) (hr : RuleIn n w sh sb r) (hl : SizesIn n w sv l) (hS : StrsIn w.heap.size w vk K)
    (hT : w.heap[T]? = some (.cells (tk.map Value.bool).toArray 4 (0, 0))) (htl : tk.length = r.body.length) (hn : n ≤ w.heap.size) :
    Calls Try.prog 44 #[ruleV r sh sb, .slice (some ⟨T, 0, none⟩) r.body.length r.body.length, vk, .float .f64 rows, sv] w fun e w' => e = .returned (.int .i64 (scan K rows l r.body tk r.body.length).1) ∧ Keep (fun b => b < w.heap.size) w w' := by
  have hready := fun (i : Nat) (x : LitD) (hx : r.body[i]? = some x) sa (hsa : TermsIn n w sa x.atom.args) W (hK : Keep (fun b => b < w.heap.size) w W) => refReady_any w.heap.size K vk x sa W (strs_keep hS hK) (terms_wider (terms_keep hsa (hK.mono fun b _ h => by omega)) (by omega)) hK.size
  have hstep := fun (i : Nat) (x : LitD) (hx : r.body[i]? = some x) W (hK : Keep (fun b => b < w.heap.size) w W) => refStep_any w.heap.size K vk r sh sb i x hx W (strs_keep hS hK) ((hr.keep (hK.mono fun b _ h => by omega)).wider hn) hK.size
  have hbeh := fun (x : LitD) sa (hsa : ∃ y m c, sa = .slice y m c) (st : StepD) (hpos : ∀ c, c ∈ st.bound → 0 ≤ c) bv nv W (hK : Keep (fun b => b < w.heap.size) w W) (hnv : ∃ y m c, nv = .slice y m c) (hb : IntsIn W.heap.size W bv st.bound) =>
    refBehind_any (n := W.heap.size) rows hrows x sa st bv nv l sv hU hpos W hsa hnv (SizesIn.wider (hl.keep (hK.mono fun b _ h => by omega)) (by have := hK.size; omega)) hb (Nat.le_refl _)
  have hls := fun i => scan_least (K := K) hrows hU (ls := r.body) (tk := tk) i
  obtain ⟨⟨pr, args⟩, body⟩ := r
  unfold ruleV at hstep ⊢
  simp only at hready hstep hls htl ⊢
  obtain ⟨hh, hb⟩ := id hr
  simp only at hh hb
  obtain ⟨aa, ca, rfl, -, -, -⟩ := id hh
  obtain ⟨ab, cb, rfl, hlb, hcb, heb⟩ := id hb
  obtain ⟨ak, ck, rfl, -, -, -⟩ := id hS
  obtain ⟨asl, csl, rfl, -, -, -⟩ := id hl
  obtain ⟨N, hN⟩ : ∃ N, w.heap.size = N := ⟨_, rfl⟩
  obtain ⟨W0, hW0⟩ : ∃ W0, w.alloc (.cells #[.string pr, .slice aa args.length ca, .slice ab body.length cb] 28) = W0 := ⟨_, rfl⟩
  have k0 : Keep (fun b => b < w.heap.size) w W0 := by rw [← hW0]; exact Keep.alloc _ _ _
  have z0 : W0.heap.size = w.heap.size + 1 := by rw [← hW0]; simp
  have a1 : W0.heap[w.heap.size]? = some (.cells #[.string pr, .slice aa args.length ca, .slice ab body.length cb] 28 (0, 0)) := by rw [← hW0]; exact new_block _ _
  have hTl := heap_lt hT
  rw [hN] at a1 z0 hTl
  have hnN : n ≤ N := by omega
  clear hh hb hr hS hl
  have Xheb := Lib.hid heb
  have XhN := Lib.hid hN
  have XhW0 := Lib.hid hW0
  have Xk0 := Lib.hid k0
  have Xa1 := Lib.hid a1
  have Xhready := Lib.hid hready
  have Xhstep := Lib.hid hstep
  have Xhbeh := Lib.hid hbeh
  have Xhls := Lib.hid hls
  have XhT := Lib.hid hT
  have Xhtl := Lib.hid htl
  clear heb hN hW0 k0 a1 hready hstep hbeh hls hT htl
  go_enter Try.func44, Try.ntmps44
  go_wp2_with fail
  rw [XhW0.out, XhN.out]
  go_loopw [11] (fun i' wr => ∃ k : Nat, k ≤ body.length ∧ i' = .int .i64 (k : Int) ∧ Keep (fun b => b < N + 1) W0 wr ∧ ∀ j, j < k → testB K body tk j = false) (fun i _ => body.length - (intOf i).toNat)
  case atStart => exact ⟨0, by omega, rfl, Keep.refl _ _, fun j h => by omega⟩
  case round =>
    obtain ⟨k, hk, rfl, hK, hall⟩ := hrel
    have hsz := hK.size
    have a5 := hK.heap Xa1.out (show N < N + 1 by omega)
    have c2 := cells_of_block a5 2 _ rfl
    simp only [Nat.zero_add] at c2
    have hNw : N < wr.heap.size := by omega
    have kw : Keep (fun b => b < N) w wr := (Xk0.out.mono fun b _ h => by have := XhN.out; omega).trans (hK.mono fun b _ h => by omega)
    have kww : Keep (fun b => b < w.heap.size) w wr := kw.mono fun b _ h => by have := XhN.out; omega
    by_cases hlt : k < body.length
    · have hlt1 : (k : Int) < body.length := by omega
      have hk0 : (0 : Int) ≤ k := by omega
      obtain ⟨x, hx⟩ : ∃ x, body[k]? = some x := ⟨_, List.getElem?_eq_getElem hlt⟩
      obtain ⟨b, o, rfl, hb, sa, hcl, hsa⟩ := Xheb.out k x hx
      obtain ⟨tb, htb⟩ : ∃ t, tk.getD k true = t := ⟨_, rfl⟩
      have hlt' : k < tk.length := by rw [Xhtl.out]; exact hlt
      have hTw := kw.heap XhT.out hTl
      have htc : wr.cell? ⟨T, k, none⟩ = some (.bool tb) := by
        have := cells_of_block hTw k (.bool tb) (by rw [List.getElem?_map, List.getElem?_eq_getElem hlt', ← htb, List.getD_eq_getElem?_getD, List.getElem?_eq_getElem hlt']; rfl)
        rwa [Nat.zero_add] at this
      have hTlw := heap_lt hTw
      have hgd : body.getD k default = x := by rw [List.getD_eq_getElem?_getD, hx]; rfl
      have hrd := Xhready.out k x hx sa hsa wr kww
      obtain ⟨asa, csa, rfl, hlx, -, -⟩ := id hsa
      have g : ∀ j v, (litCells x (.slice asa x.atom.args.length csa))[j]? = some v → wr.cell? ⟨b, o + k * 7 + j, none⟩ = some v := fun j v h => kw.cell (hcl j v h) (show b < N by omega)
      have m0 := g 0 _ rfl
      have m1 := g 1 _ rfl
      have m2 := g 2 _ rfl
      have m3 := g 3 _ rfl
      have m4 := g 4 _ rfl
      have m5 := g 5 _ rfl
      have m6 := g 6 _ rfl
      simp only [Nat.add_zero] at m0
      have hbw : b < wr.heap.size := by omega
      have hte : testB K body tk k = (!tb && (decide (x.kind ≠ 1) && readyP K x)) := by unfold testB; rw [htb, hgd]
      have hnx : testB K body tk k = false → ∀ j, j < k + 1 → testB K body tk j = false := fun h j hj => by
        rcases Nat.lt_succ_iff_lt_or_eq.1 hj with h2 | rfl
        · exact hall j h2
        · exact h
      have hat := fun h => scan_at_test (rows := rows) (sizes := l) (n := body.length) hall h hlt
      unfold litV at hrd
      clear g hcl hsa hx hgd hTw hall
      cases tb
      · by_cases hk1 : x.kind = 1
        · have hkb : (x.kind != 1) = false := by simp [hk1]
          have hN2 := hnx (by rw [hte]; simp [hk1])
          clear hk1 hrd hat hnx
          have XhN2 := Lib.hid hN2
          have Xhte := Lib.hid hte
          have XhK := Lib.hid hK
          have Xkw := Lib.hid kw
          have Xkww := Lib.hid kww
          have Xhtb := Lib.hid htb
          have Xa5 := Lib.hid a5
          clear hN2 hte hK kw kww htb a5
          go_wp2_with fail
          go_roundw
          case rel => exact ⟨k + 1, by omega, by go_num, XhK.out, XhN2.out⟩
          case measure => simp [intOf]; omega
        · have hkb : (x.kind != 1) = true := bne_iff_ne.2 hk1
          obtain ⟨rb, hrb⟩ : ∃ b, readyP K x = b := ⟨_, rfl⟩
          rw [hrb] at hrd hte
          rw [decide_eq_true hk1] at hte
          cases rb
          · have hN2 := hnx (by rw [hte]; rfl)
            clear hk1 hat hnx
            have XhN2 := Lib.hid hN2
            have Xhte := Lib.hid hte
            have XhK := Lib.hid hK
            have Xkw := Lib.hid kw
            have Xkww := Lib.hid kww
            have Xhtb := Lib.hid htb
            have Xhrd := Lib.hid hrd
            have Xhrb := Lib.hid hrb
            have Xa5 := Lib.hid a5
            clear hN2 hte hK kw kww htb hrd hrb a5
            go_wp2_with fail
            refine Xhrd.out.mono ?_
            rintro e W6 ⟨rfl, k6⟩
            go_wp2_with fail
            go_roundw
            case rel => exact ⟨k + 1, by omega, by go_num, XhK.out.trans (k6.mono fun b _ h => by omega), XhN2.out⟩
            case measure => simp [intOf]; omega
          · have hF := hat (by rw [hte]; rfl)
            clear hk1 hat hnx
            have XhF := Lib.hid hF
            have Xhte := Lib.hid hte
            have XhK := Lib.hid hK
            have Xkw := Lib.hid kw
            have Xkww := Lib.hid kww
            have Xhtb := Lib.hid htb
            have Xhrd := Lib.hid hrd
            have Xhrb := Lib.hid hrb
            have Xa5 := Lib.hid a5
            clear hF hte hK kw kww htb hrd hrb a5
            go_wp2_with fail
            refine Xhrd.out.mono ?_
            rintro e W6 ⟨rfl, k6⟩
            go_wp2_with fail
            go_ret
            exact ⟨by rw [XhF.out]; rfl, Xkww.out.trans (k6.mono fun b _ h => by have := XhN.out; omega)⟩
      · have hN2 := hnx (by rw [hte]; rfl)
        clear hrd hat hnx
        have XhN2 := Lib.hid hN2
        have Xhte := Lib.hid hte
        have XhK := Lib.hid hK
        have Xkw := Lib.hid kw
        have Xkww := Lib.hid kww
        have Xhtb := Lib.hid htb
        have Xa5 := Lib.hid a5
        clear hN2 hte hK kw kww htb a5
        go_wp2_with fail
        go_roundw
        case rel => exact ⟨k + 1, by omega, by go_num, XhK.out, XhN2.out⟩
        case measure => simp [intOf]; omega
    · obtain rfl : k = body.length := by omega
      have hno := fun i (hi : i ≤ body.length) => scan_no_test (rows := rows) (sizes := l) i (fun j hj => hall j (by omega))
      obtain ⟨Wo, hWo⟩ : ∃ W, W = wr := ⟨_, rfl⟩
      subst hWo
      have hK0 := hK
      clear hall
      have Xhno := Lib.hid hno
      have XhK := Lib.hid hK
      have Xkw := Lib.hid kw
      have Xkww := Lib.hid kww
      have XhK0 := Lib.hid hK0
      have Xa5 := Lib.hid a5
      clear hno hK kw kww hK0 a5
      go_wp2_with fail
      go_loopw [12, 13, 14] (fun x12 x13 i' wq => ∃ i : Nat, i ≤ body.length ∧ i' = .int .i64 (i : Int) ∧ x12 = .int .i64 (scan K rows l body tk i).1 ∧ x13 = .float .f64 (scan K rows l body tk i).2.1 ∧ Keep (fun b => b < Wo.heap.size) Wo wq) (fun _ _ i _ => body.length - (intOf i).toNat)
      case atStart => exact ⟨0, by omega, rfl, rfl, rfl, Keep.refl _ _⟩
      case round =>
        obtain ⟨i, hi, rfl, rfl, rfl, hKq⟩ := hrel
        have hzq := hKq.size
        have hsd := Xhno.out i hi
        have hNq : N < wr.heap.size := by omega
        have a6 := hKq.heap Xa5.out hNw
        have d0 := cells_of_block a6 0 _ rfl
        have d1 := cells_of_block a6 1 _ rfl
        have d2 := cells_of_block a6 2 _ rfl
        simp only [Nat.zero_add] at d0 d1 d2
        by_cases hlti : i < body.length
        · have hlti1 : (i : Int) < body.length := by omega
          have hi0 : (0 : Int) ≤ i := by omega
          obtain ⟨x, hx⟩ : ∃ x, body[i]? = some x := ⟨_, List.getElem?_eq_getElem hlti⟩
          obtain ⟨b, o, rfl, hb, sa, hcl, hsa⟩ := Xheb.out i x hx
          obtain ⟨tb, htb⟩ : ∃ t, tk.getD i true = t := ⟨_, rfl⟩
          have hlt' : i < tk.length := by rw [Xhtl.out]; exact hlti
          have kwq : Keep (fun b => b < N) w wr := Xkw.out.trans (hKq.mono fun b _ h => by omega)
          have kwwq : Keep (fun b => b < w.heap.size) w wr := kwq.mono fun b _ h => by have := XhN.out; omega
          have hTw := kwq.heap XhT.out hTl
          have htc : wr.cell? ⟨T, i, none⟩ = some (.bool tb) := by
            have := cells_of_block hTw i (.bool tb) (by rw [List.getElem?_map, List.getElem?_eq_getElem hlt', ← htb, List.getD_eq_getElem?_getD, List.getElem?_eq_getElem hlt']; rfl)
            rwa [Nat.zero_add] at this
          have hTlw := heap_lt hTw
          have hgd : body.getD i default = x := by rw [List.getD_eq_getElem?_getD, hx]; rfl
          have hst := Xhstep.out i x hx wr.drew (kwwq.trans (Keep.drew _ _))
          have hbh := Xhbeh.out x sa
          obtain ⟨asa, csa, rfl, hlx, -, -⟩ := id hsa
          have g : ∀ j v, (litCells x (.slice asa x.atom.args.length csa))[j]? = some v → wr.cell? ⟨b, o + i * 7 + j, none⟩ = some v := fun j v h => kwq.cell (hcl j v h) (show b < N by omega)
          have m0 := g 0 _ rfl
          have m1 := g 1 _ rfl
          have m2 := g 2 _ rfl
          have m3 := g 3 _ rfl
          have m4 := g 4 _ rfl
          have m5 := g 5 _ rfl
          have m6 := g 6 _ rfl
          simp only [Nat.add_zero] at m0
          have hbw : b < wr.heap.size := by omega
          unfold litV stepV at hbh
          clear g hcl hsa hTw hx
          cases tb
          · by_cases hk1 : x.kind = 1
            · have hsc := scan_pos (sizes := l) (rows := rows) hsd htb hgd hk1
              have hrp : readyP K x = true := by unfold readyP; rw [decide_eq_true hk1]; rfl
              have hsame := step_same hrp i
              have hsb : (stepP K x i).bound = boundL K x.atom.args := by unfold stepP; rw [if_neg (by omega)]
              have hsn : (stepP K x i).new = newL K x.atom.args := by unfold stepP; rw [if_neg (by omega)]
              have hle1 := boundL_len K x.atom.args
              have hle2 := newL_len K x.atom.args
              have hbh2 := hbh ⟨_, _, _, rfl⟩ ⟨(i : Int), boundL K x.atom.args, newL K x.atom.args⟩ (boundL_pos _ _)
              simp only at hbh2
              have hnb := behind_le hrows x (boundL K x.atom.args) hU
              rw [hsame, hsb, hsn] at hst
              rw [hsb] at hsc
              have hkb : (x.kind != 1) = false := by simp [hk1]
              obtain ⟨nb, hnbe⟩ : ∃ nb, behindD rows x (boundL K x.atom.args) l = nb := ⟨_, rfl⟩
              simp only [hnbe] at hsc hbh2 hnb
              have hlsi := Xhls.out i
              obtain ⟨bi, hbi⟩ : ∃ bi, (scan K rows l body tk i).1 = bi := ⟨_, rfl⟩
              obtain ⟨li, hli⟩ : ∃ li, (scan K rows l body tk i).2.1 = li := ⟨_, rfl⟩
              rw [hbi, hli] at hsc
              rw [hli] at hlsi
              rw [hbi, hli]
              have hlss := lss_eq hnb hlsi
              clear hk1 hgd hbh hsb hsn hnbe hsame hrp a6
              have Xhsc := Lib.hid hsc
              have Xhsd := Lib.hid hsd
              have XhKq := Lib.hid hKq
              have Xhst := Lib.hid hst
              have Xhbh2 := Lib.hid hbh2
              have Xhtb := Lib.hid htb
              have Xhbi := Lib.hid hbi
              have Xhli := Lib.hid hli
              have Xhlss := Lib.hid hlss
              have Xkwq := Lib.hid kwq
              have Xkwwq := Lib.hid kwwq
              clear hsc hsd hKq hst hbh2 htb hbi hli hlss kwq kwwq
              go_wp2_with fail
              go_region_held3 (fun W => W.cell? ⟨b, o + i * 7, none⟩ = some (.int .i64 x.kind) ∧ W.cell? ⟨b, o + i * 7 + 1, none⟩ = some (.string x.atom.pred) ∧ W.cell? ⟨b, o + i * 7 + 2, none⟩ = some (.slice asa x.atom.args.length csa) ∧ W.cell? ⟨b, o + i * 7 + 3, none⟩ = some (.bool x.left.var) ∧ W.cell? ⟨b, o + i * 7 + 4, none⟩ = some (.string x.left.text) ∧ W.cell? ⟨b, o + i * 7 + 5, none⟩ = some (.bool x.right.var) ∧ W.cell? ⟨b, o + i * 7 + 6, none⟩ = some (.string x.right.text) ∧ W.cell? ⟨N, 0, none⟩ = some (.string pr) ∧ W.cell? ⟨N, 1, none⟩ = some (.slice aa args.length ca) ∧ W.cell? ⟨N, 2, none⟩ = some (.slice (some ⟨b, o, none⟩) body.length cb))
                (first | (refine ⟨?_, ?_, ?_, ?_, ?_, ?_, ?_, ?_, ?_, ?_⟩ <;> assumption) | go_keep)
                (first
                  | (go_at_call 45; refine Xhst.out.mono ?_; rintro e w1 ⟨vb, vn, rfl, ob, on, hq⟩; have q0' := hq.cell m0 (by simp; omega); have q1' := hq.cell m1 (by simp; omega); have q2' := hq.cell m2 (by simp; omega); have q3' := hq.cell m3 (by simp; omega); have q4' := hq.cell m4 (by simp; omega); have q5' := hq.cell m5 (by simp; omega); have q6' := hq.cell m6 (by simp; omega); have e0' := hq.cell d0 (by simp; omega); have e1' := hq.cell d1 (by simp; omega); have e2' := hq.cell d2 (by simp; omega); have zq := hq.size; simp only [World.size_drew] at zq; clear m0 m1 m2 m3 m4 m5 m6 d0 d1 d2)
                  | (go_at_call 46; refine (Xhbh2.out vb vn w1 ((Xkwwq.out.trans (Keep.drew _ _)).trans (hq.mono fun b hb h => by have := Xkwwq.out.size; simp; omega)) (by obtain ⟨ax, cx, hx⟩ := own_form on; exact ⟨_, _, _, hx⟩) (own_ints ob (by omega))).mono ?_; rintro e w2 ⟨rfl, hp⟩; have q0'' := hp.cell q0' (by simp; omega); have q1'' := hp.cell q1' (by simp; omega); have q2'' := hp.cell q2' (by simp; omega); have q3'' := hp.cell q3' (by simp; omega); have q4'' := hp.cell q4' (by simp; omega); have q5'' := hp.cell q5' (by simp; omega); have q6'' := hp.cell q6' (by simp; omega); have e0'' := hp.cell e0' (by simp; omega); have e1'' := hp.cell e1' (by simp; omega); have e2'' := hp.cell e2' (by simp; omega); have zp := hp.size; clear q0' q1' q2' q3' q4' q5' q6' e0' e1' e2'))
              have hK7 : Keep (fun b => b < Wo.heap.size) Wo w2 := ((XhKq.out.trans (Keep.drew _ _)).trans (hq.mono fun b hb h => by simp; omega)).trans (hp.mono fun b hb h => by omega)
              have hsc := Xhsc.out
              clear hq hp ob on q0'' q1'' q2'' q3'' q4'' q5'' q6'' e0'' e1'' e2'' Xhsc
              have XhK7 := Lib.hid hK7
              clear hK7
              by_cases hb0 : bi < 0
              · rw [if_pos (.inl hb0)] at hsc
                clear Xhlss
                have Xhsc := Lib.hid hsc
                clear hsc
                go_wp2_with fail
                go_roundw
                case rel => exact ⟨i + 1, by omega, by go_num, by rw [Xhsc.out], by rw [Xhsc.out], XhK7.out⟩
                case measure => simp [intOf]; omega
              · by_cases hnl : nb < li
                · rw [if_pos (.inr hnl)] at hsc
                  have hlt' := Xhlss.out
                  rw [decide_eq_true hnl] at hlt'
                  clear Xhlss hnl
                  have Xhsc := Lib.hid hsc
                  clear hsc
                  go_wp2_with fail
                  go_roundw
                  case rel => exact ⟨i + 1, by omega, by go_num, by rw [Xhsc.out], by rw [Xhsc.out], XhK7.out⟩
                  case measure => simp [intOf]; omega
                · rw [if_neg (fun h => h.elim hb0 hnl)] at hsc
                  have hlt' := Xhlss.out
                  rw [decide_eq_false hnl] at hlt'
                  clear Xhlss hnl
                  have Xhsc := Lib.hid hsc
                  clear hsc
                  go_wp2_with fail
                  go_roundw
                  case rel => exact ⟨i + 1, by omega, by go_num, by rw [Xhsc.out, Xhbi.out], by rw [Xhsc.out, Xhli.out], XhK7.out⟩
                  case measure => simp [intOf]; omega
            · have hsc := scan_test (sizes := l) (rows := rows) hsd htb hgd hk1
              have hkb : (x.kind != 1) = true := bne_iff_ne.2 hk1
              have hsd2 := Xhno.out (i + 1) (by omega)
              have hsc2 : scan K rows l body tk (i + 1) = scan K rows l body tk i := by
                cases hr : readyP K x with
                | false => rw [hsc, hr]; rfl
                | true => rw [hsc, hr] at hsd2; cases hsd2
              clear hk1 hgd hst hbh hsc hsd2
              have Xhsc2 := Lib.hid hsc2
              have Xhsd := Lib.hid hsd
              have XhKq := Lib.hid hKq
              have Xhtb := Lib.hid htb
              have Xkwq := Lib.hid kwq
              have Xkwwq := Lib.hid kwwq
              have Xa6 := Lib.hid a6
              clear hsc2 hsd hKq htb kwq kwwq a6
              go_wp2_with fail
              go_roundw
              case rel => exact ⟨i + 1, by omega, by go_num, by rw [Xhsc2.out], by rw [Xhsc2.out], XhKq.out⟩
              case measure => simp [intOf]; omega
          · have hsc := scan_taken (rows := rows) (sizes := l) (ls := body) hsd htb
            clear hgd hst hbh
            have Xhsc := Lib.hid hsc
            have Xhsd := Lib.hid hsd
            have XhKq := Lib.hid hKq
            have Xhtb := Lib.hid htb
            have Xkwq := Lib.hid kwq
            have Xkwwq := Lib.hid kwwq
            have Xa6 := Lib.hid a6
            clear hsc hsd hKq htb kwq kwwq a6
            go_wp2_with fail
            go_roundw
            case rel => exact ⟨i + 1, by omega, by go_num, by rw [Xhsc.out], by rw [Xhsc.out], XhKq.out⟩
            case measure => simp [intOf]; omega
        · obtain rfl : i = body.length := by omega
          clear a6
          have Xhsd := Lib.hid hsd
          have XhKq := Lib.hid hKq
          clear hsd hKq
          go_wp2_with fail
          go_ret
          exact ⟨rfl, Xkww.out.trans (XhKq.out.mono fun b _ h => by have := XhN.out; omega)⟩
end Go.Proofs
