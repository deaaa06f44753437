/- Layer 16 (plan): the closure of Least that goes through all orders. -/
import Derived.Test.YtichfebfcapnhaaProg
import Derived.Test.YtichfebfcapnhaaPqA
import Derived.Test.YtichfebfcapnhaaPnQToOwnB
import Derived.Test.YtichfebfcapnhaaPpL
namespace Go.Proofs
open Go.RowKit Go.Ink Go.Flt
set_option linter.unusedVariables false
set_option linter.unusedSimpArgs false
attribute [local go_sem] Oper.semAt_some
attribute [local go_sem] run_store_float

/-- what does not change -/
structure FixM (S N Lb P TK T Z X : Nat) (r : RuleD) (sh sb szv : Value) (w : World) : Prop where
  rule : w.heap[N]? = some (.cells #[.string r.head.pred, sh, sb] 28 (0, 0))
  size : w.heap[Z]? = some (.cells #[szv] 29 (0, 0))
  take : w.heap[T]? = some (.cells #[.slice (some ⟨TK, 0, none⟩) r.body.length r.body.length] 87 (0, 0))
  next : w.heap[X]? = some (.cells #[.func (.func 59) #[] #[.pointer (some ⟨S, 0, none⟩), .pointer (some ⟨N, 0, none⟩), .pointer (some ⟨Lb, 0, none⟩), .pointer (some ⟨P, 0, none⟩), .pointer (some ⟨T, 0, none⟩), .pointer (some ⟨Z, 0, none⟩), .pointer (some ⟨X, 0, none⟩)]] 108 (0, 0))
/-- what does -/
structure VarM (base S Lb P TK : Nat) (pp : ByteArray) (bh bb : Value) (stv : Value) (ss : List StepD) (tk : List Bool) (bsv : Value) (best : BestD) (w : World) : Prop where
  steps : w.heap[S]? = some (.cells #[stv] 32 (0, 0))
  least : w.heap[Lb]? = some (.cells #[.float .f64 (lstB best)] 49 (0, 0))
  plan : w.heap[P]? = some (.cells #[.string pp, bh, bb, bsv] 34 (0, 0))
  taken : w.heap[TK]? = some (.cells (tk.map Value.bool).toArray 4 (0, 0))
  own : StepsOwn base w stv ss
  bown : StepsOwn base w bsv (stpB best)
  sep : ∀ b, bsv.ownBlock = some b → stv.ownBlock ≠ some b
theorem FixM.keep {S N Lb P TK T Z X : Nat} {r : RuleD} {sh sb szv : Value} {w w' : World} {C : Nat → Prop} (h : FixM S N Lb P TK T Z X r sh sb szv w) (hK : Keep C w w') (h1 : C N) (h2 : C Z) (h3 : C T) (h4 : C X) : FixM S N Lb P TK T Z X r sh sb szv w' :=
  ⟨hK.heap h.rule h1, hK.heap h.size h2, hK.heap h.take h3, hK.heap h.next h4⟩
theorem VarM.keep {base S Lb P TK : Nat} {pp : ByteArray} {bh bb stv : Value} {ss : List StepD} {tk : List Bool} {bsv : Value} {best : BestD} {w w' : World} {C : Nat → Prop} (h : VarM base S Lb P TK pp bh bb stv ss tk bsv best w) (hK : Keep C w w') (hC : ∀ b, b < w.heap.size → C b) : VarM base S Lb P TK pp bh bb stv ss tk bsv best w' :=
  ⟨hK.heap h.steps (hC _ (heap_lt h.steps)), hK.heap h.least (hC _ (heap_lt h.least)), hK.heap h.plan (hC _ (heap_lt h.plan)), hK.heap h.taken (hC _ (heap_lt h.taken)), h.own.keep hK (fun b cs t _ h _ => hC b (heap_lt h)), h.bown.keep hK (fun b cs t _ h _ => hC b (heap_lt h)), h.sep⟩

set_option maxRecDepth 100000 in
set_option maxHeartbeats 4000000 in
theorem next_any (n base S N Lb P TK T Z X : Nat) (r : RuleD) (sh sb szv : Value) (l : List SizeD) (pp : ByteArray) (bh bb : Value) (hF : formedB r = true) (hU : usableB l = true) (h6 : r.body.length ≤ 6)
    (o1 : n ≤ N) (o2 : N < Z) (o3 : Z < P) (o4 : P < Lb) (o5 : Lb < TK) (o6 : TK < T) (o7 : T < S) (o8 : S < X) (o9 : X < base) (m : Nat) :
    ∀ (ss : List StepD) (tk : List Bool) (rows cost : Nat) (best : BestD) (stv bsv : Value) (w : World), ss.length + m = r.body.length → tk.length = r.body.length → rows ≤ 9094988921128908188 → cost ≤ most ss.length → FineB best → sizedS ss →
      FixM S N Lb P TK T Z X r sh sb szv w → VarM base S Lb P TK pp bh bb stv ss tk bsv best w → RuleIn n w sh sb r → SizesIn n w szv l → base ≤ w.heap.size →
      Calls Try.prog 59 #[.float .f64 rows, .float .f64 cost, .pointer (some ⟨S, 0, none⟩), .pointer (some ⟨N, 0, none⟩), .pointer (some ⟨Lb, 0, none⟩), .pointer (some ⟨P, 0, none⟩), .pointer (some ⟨T, 0, none⟩), .pointer (some ⟨Z, 0, none⟩), .pointer (some ⟨X, 0, none⟩)] w fun e w' => e = .returned (.tuple #[]) ∧ ∃ stv' bsv', VarM base S Lb P TK pp bh bb stv' ss tk bsv' (dfs r.body l m tk rows cost ss best) w' ∧ (∀ b, stv'.ownBlock = some b → stv.ownBlock = some b ∨ w.heap.size ≤ b) ∧ Keep (fun b => b < w.heap.size ∧ b ≠ S ∧ b ≠ Lb ∧ b ≠ P ∧ b ≠ TK ∧ stv.ownBlock ≠ some b) w w' := by
  have hkd := fun L (hL : L ∈ r.body) => formed_kind hF hL
  clear hF
  have Xhkd := Lib.hid hkd
  clear hkd
  induction m with
  | zero =>
    intro ss tk rows cost best stv bsv w hm htl hrows hcost hfine hszs hfix hvar hr hl hbase
    obtain ⟨⟨pr, args⟩, body⟩ := r
    obtain ⟨hh, hb⟩ := id hr
    simp only at hh hb hm htl h6
    obtain ⟨aa, ca, rfl, -, -, -⟩ := id hh
    obtain ⟨ab, cb, rfl, hlb, -, -⟩ := id hb
    obtain ⟨asz, csz, rfl, -, -, -⟩ := id hl
    obtain ⟨ast, cst, rfl⟩ := hvar.own.form
    obtain ⟨absv, cbsv, rfl⟩ := hvar.bown.form
    have f2 := cells_of_block hfix.rule 2 _ rfl
    have s0 := cells_of_block hvar.steps 0 _ rfl
    have l0 := cells_of_block hvar.least 0 _ rfl
    have l0f := box_free hvar.least 0
    have p3 := cells_of_block hvar.plan 3 _ rfl
    have p3f := box_free hvar.plan 3
    simp only [Nat.zero_add] at f2 s0 l0 p3
    have lS := heap_lt hvar.steps
    have lL := heap_lt hvar.least
    have lP := heap_lt hvar.plan
    have lN := heap_lt hfix.rule
    have hmb : ss.length = body.length := by omega
    rw [hmb] at s0
    have hll : ((body.length : Int) == body.length) = true := by simp
    have hcf : cost < 9218868437227405312 := by have := most_fin (show ss.length ≤ 256 by omega); omega
    rw [show dfs body l 0 tk rows cost ss best = updB best cost ss from rfl]
    have hown := hvar.own
    rw [hmb] at hown
    clear hh hb hm
    have hlo : ∀ b, Value.ownBlock (.slice ast ss.length cst) = some b → base ≤ b ∧ b < w.heap.size := fun b hb => by
      obtain ⟨h1, h2, _⟩ := hvar.own.typed hb
      exact ⟨h1, h2⟩
    rw [hmb] at hlo hvar ⊢
    obtain ⟨lv, hlv⟩ : ∃ lv, lstB best = lv := ⟨_, rfl⟩
    rw [hlv] at l0
    have hcond : (updB best cost ss = some (cost, ss) ∧ ((FloatKind.f64.format.order lv 0 == some .lt) = true ∨ ((FloatKind.f64.format.order lv 0 == some .lt) = false ∧ (FloatKind.f64.format.order cost lv == some .lt) = true))) ∨
        (updB best cost ss = best ∧ (FloatKind.f64.format.order lv 0 == some .lt) = false ∧ (FloatKind.f64.format.order cost lv == some .lt) = false) := by
      cases best with
      | none => exact .inl ⟨rfl, .inl (by rw [← hlv]; exact neg_lss)⟩
      | some p =>
        obtain ⟨b, s⟩ := p
        have hbf := hfine b s rfl
        have e : lv = b := hlv.symm
        have e0 : (FloatKind.f64.format.order lv 0 == some .lt) = false := by rw [e, lss_fin hbf (by decide)]; exact decide_eq_false (by omega)
        have e1 : (FloatKind.f64.format.order cost lv == some .lt) = decide (cost < b) := by rw [e, lss_fin hcf hbf]
        by_cases hlt : cost < b
        · exact .inl ⟨by unfold updB; simp only; rw [if_pos hlt], .inr ⟨e0, by rw [e1, decide_eq_true hlt]⟩⟩
        · exact .inr ⟨by unfold updB; simp only; rw [if_neg hlt], e0, by rw [e1, decide_eq_false hlt]⟩
    rcases hcond with ⟨hup, hc⟩ | ⟨hup, hc1, hc2⟩
    · obtain ⟨W1, hW1⟩ : ∃ W1, w.setCell ⟨Lb, 0, none⟩ (.float .f64 cost) = W1 := ⟨_, rfl⟩
      have k1 : Keep (fun b => b ≠ Lb) w W1 := by rw [← hW1]; exact Keep.setCell _ _ _ (by simp)
      have hz1 : W1.heap.size = w.heap.size := by rw [← hW1]; simp [World.setCell]
      have hown1 := hown.keep k1 (fun b cs t h _ _ => by omega)
      have hcl := hown1.clone hmb (by omega) (by omega)
      have s1 := k1.cell s0 (show S ≠ Lb by omega)
      have lS1 : S < W1.heap.size := by omega
      have hL1 := set_box (.float .f64 cost) hvar.least
      rw [hW1] at hL1
      have hS1 := k1.heap hvar.steps (show S ≠ Lb by omega)
      have hP1 := k1.heap hvar.plan (show P ≠ Lb by omega)
      have hT1 := k1.heap hvar.taken (show TK ≠ Lb by omega)
      rw [hup]
      clear hfix hr hl hvar hown hup hlv hfine p3 p3f lP
      have XhW1 := Lib.hid hW1
      have Xk1 := Lib.hid k1
      have Xhown1 := Lib.hid hown1
      have Xhcl := Lib.hid hcl
      have XhL1 := Lib.hid hL1
      have XhS1 := Lib.hid hS1
      have XhP1 := Lib.hid hP1
      have XhT1 := Lib.hid hT1
      have Xhlo := Lib.hid hlo
      have Xhszs := Lib.hid hszs
      clear hW1 k1 hown1 hcl hL1 hS1 hP1 hT1 hlo hszs
      rcases hc with hc | ⟨hc, hc'⟩
      all_goals
        go_enter Try.func59, Try.ntmps59
        go_wp2_with fail
        go_step3
        go_wp2_with fail
        rw [XhW1.out]
        try go_wp2_with fail
        refine Xhcl.out.mono ?_
        rintro e W2 ⟨v2, rfl, oc, hnew, k2⟩
        obtain ⟨a2, c2, rfl⟩ := oc.form
        rw [hmb] at oc hnew
        have hP2 := k2.heap XhP1.out trivial
        have p3 := cells_of_block hP2 3 _ rfl
        have p3f := box_free hP2 3
        simp only [Nat.zero_add] at p3
        have lP2 := heap_lt hP2
        obtain ⟨W3, hW3⟩ : ∃ W3, W2.setCell ⟨P, 3, none⟩ (.slice a2 body.length c2) = W3 := ⟨_, rfl⟩
        have k3 : Keep (fun b => b ≠ P) W2 W3 := by rw [← hW3]; exact Keep.setCell _ _ _ (by simp)
        have hP3 := set_at 3 (.slice a2 body.length c2) hP2
        rw [hW3] at hP3
        simp only [List.setIfInBounds_toArray, List.set_cons_succ, List.set_cons_zero] at hP3
        have hS3 := k3.heap (k2.heap XhS1.out trivial) (show S ≠ P by omega)
        have hL3 := k3.heap (k2.heap XhL1.out trivial) (show Lb ≠ P by omega)
        have hT3 := k3.heap (k2.heap XhT1.out trivial) (show TK ≠ P by omega)
        have ho3 := (Xhown1.out.keep k2 (fun _ _ _ _ _ _ => trivial)).keep k3 (fun b cs t h _ _ => by omega)
        have hb3 := oc.keep k3 (fun b cs t h _ _ => by omega)
        have kk : Keep (fun b => b < w.heap.size ∧ b ≠ S ∧ b ≠ Lb ∧ b ≠ P ∧ b ≠ TK ∧ Value.ownBlock (.slice ast body.length cst) ≠ some b) w W3 := ((Xk1.out.mono fun b _ h => h.2.2.1).trans (k2.mono fun _ _ _ => trivial)).trans (k3.mono fun b _ h => h.2.2.2.1)
        clear oc k2 hP2 k3
        have XhW3 := Lib.hid hW3
        have XhP3 := Lib.hid hP3
        have XhS3 := Lib.hid hS3
        have XhL3 := Lib.hid hL3
        have XhT3 := Lib.hid hT3
        have Xho3 := Lib.hid ho3
        have Xhb3 := Lib.hid hb3
        have Xkk := Lib.hid kk
        have Xhnew := Lib.hid hnew
        clear hW3 hP3 hS3 hL3 hT3 ho3 hb3 kk hnew
        go_wp2_with fail
        rw [XhW3.out]
        rw [Exit.noGoto_ret]
        refine bodyPost_ret (results_none rfl _ _ _) rfl ?_
        exact ⟨rfl, _, _, ⟨XhS3.out, XhL3.out, XhP3.out, XhT3.out, Xho3.out, Xhb3.out, fun b hb e => by
          have h1 := Xhnew.out b hb
          have h2 := (Xhlo.out b e).2
          omega⟩, fun b hb => .inl hb, Xkk.out⟩
    · rw [hup]
      clear hfix hr hl hown hup hlv hfine p3 p3f lP
      have Xhvar := Lib.hid hvar
      have Xhlo := Lib.hid hlo
      have Xhszs := Lib.hid hszs
      clear hvar hlo hszs
      go_enter Try.func59, Try.ntmps59
      go_wp2_with fail
      go_step3
      go_wp2_with fail
      rw [Exit.noGoto_ret]
      refine bodyPost_ret (results_none rfl _ _ _) rfl ?_
      exact ⟨rfl, _, _, Xhvar.out, fun b hb => .inl hb, Keep.refl _ _⟩
  | succ m ih =>
    intro ss tk rows cost best stv bsv w hm htl hrows hcost hfine hszs hfix hvar hr hl hbase
    have hready := fun (i : Nat) (x : LitD) (hx : r.body[i]? = some x) M sa (hsa : TermsIn n w sa x.atom.args) W (hS : SetIn W M (knownS ss)) (hK : Keep (fun b => b < n) w W) => ready_any n M (knownS ss) x sa W hS (terms_keep hsa hK)
    have hstep := fun (i : Nat) (x : LitD) (hx : r.body[i]? = some x) M W (hS : SetIn W M (knownS ss)) (hK : Keep (fun b => b < n) w W) => step_any n M (knownS ss) r sh sb i x hx W hS (hr.keep hK)
    have hbeh := fun (x : LitD) (hkd : x.kind = 1 ∨ x.kind = 2 ∨ x.kind = 3) sa (hsa : ∃ y m c, sa = .slice y m c) (st : StepD) (hpos : ∀ c, c ∈ st.bound → 0 ≤ c) bv nv W (hK : Keep (fun b => b < n) w W) (hnv : ∃ y m c, nv = .slice y m c) (hb : IntsIn W.heap.size W bv st.bound) (hnw : n ≤ W.heap.size) =>
      behind_any W.heap.size rows hrows x sa st bv nv l szv hU hpos hkd W hsa hnv (SizesIn.wider (hl.keep hK) hnw) hb (Nat.le_refl _)
    have hdt := fun k => dfsTo_fine (ls := r.body) hU m tk rows cost ss best hrows hcost (by omega) hfine k
    have hgo : dfs r.body l (m + 1) tk rows cost ss best = dfsTo r.body l m tk rows cost ss best r.body.length := rfl
    rw [hgo]
    have hfixk := fun W (hK : Keep (fun b => b < w.heap.size ∧ b ≠ S ∧ b ≠ Lb ∧ b ≠ P ∧ b ≠ TK ∧ stv.ownBlock ≠ some b) w W) => hfix.keep hK ⟨by omega, by omega, by omega, by omega, by omega, fun e => by have := (hvar.own.typed e).1; omega⟩ ⟨by omega, by omega, by omega, by omega, by omega, fun e => by have := (hvar.own.typed e).1; omega⟩ ⟨by omega, by omega, by omega, by omega, by omega, fun e => by have := (hvar.own.typed e).1; omega⟩ ⟨by omega, by omega, by omega, by omega, by omega, fun e => by have := (hvar.own.typed e).1; omega⟩
    have hkn := fun W (hK : Keep (fun b => b < w.heap.size ∧ b ≠ S ∧ b ≠ Lb ∧ b ≠ P ∧ b ≠ TK ∧ stv.ownBlock ≠ some b) w W) => (hK.mono fun b _ (h : b < n) => ⟨by omega, by omega, by omega, by omega, by omega, fun e => by have := (hvar.own.typed e).1; omega⟩ : Keep (fun b => b < n) w W)
    have hsized := sized_of hr
    obtain ⟨⟨pr, args⟩, body⟩ := r
    obtain ⟨hh, hb⟩ := id hr
    unfold ruleV at hstep
    simp only at hh hb hm htl h6 hready hstep ih hsized ⊢
    obtain ⟨aa, ca, rfl, -, -, -⟩ := id hh
    obtain ⟨ab, cb, rfl, hlb, hcb, heb⟩ := id hb
    obtain ⟨asz, csz, rfl, -, -, -⟩ := id hl
    obtain ⟨ast, cst, rfl⟩ := hvar.own.form
    obtain ⟨M, hM⟩ : ∃ M, w.heap.size = M := ⟨_, rfl⟩
    have hlts : ss.length < body.length := by omega
    have hne : ((ss.length : Int) == body.length) = false := by
      rw [beq_eq_false_iff_ne]
      omega
    have f2 := cells_of_block hfix.rule 2 _ rfl
    have s0 := cells_of_block hvar.steps 0 _ rfl
    simp only [Nat.zero_add] at f2 s0
    have lS := heap_lt hvar.steps
    have lN := heap_lt hfix.rule
    obtain ⟨W1, hW1⟩ : ∃ W1, w.alloc (.map #[] 0) = W1 := ⟨_, rfl⟩
    have k1 : Keep (fun _ => True) w W1 := by rw [← hW1]; exact Keep.alloc _ _ _
    have z1 : W1.heap.size = w.heap.size + 1 := by rw [← hW1]; simp
    have hset1 : SetIn W1 M [] := by rw [← hW1, ← hM]; exact setIn_new w
    have s1 := k1.cell s0 trivial
    have f21 := k1.cell f2 trivial
    have lS1 : S < W1.heap.size := by omega
    have lN1 : N < W1.heap.size := by omega
    have hmm := fun w => run_makeSet w
    obtain ⟨_, _, hv', hls, -, hes⟩ := hvar.own.steps hszs
    cases hv'
    have hknt := fun (k : Nat) (x : StepD) (h : ss[k]? = some x) => knownS_snoc ss h
    clear hh hb hgo
    have Xhready := Lib.hid hready
    have Xhstep := Lib.hid hstep
    have Xhbeh := Lib.hid hbeh
    have Xhdt := Lib.hid hdt
    have Xhfixk := Lib.hid hfixk
    have Xhkn := Lib.hid hkn
    have Xhfix := Lib.hid hfix
    have Xhvar := Lib.hid hvar
    have Xhr := Lib.hid hr
    have Xhl := Lib.hid hl
    have Xih := Lib.hid ih
    have Xheb := Lib.hid heb
    have Xhes := Lib.hid hes
    have XhW1 := Lib.hid hW1
    have Xk1 := Lib.hid k1
    have Xhset1 := Lib.hid hset1
    have XhM := Lib.hid hM
    have Xhszs := Lib.hid hszs
    have Xhfine := Lib.hid hfine
    have Xhsized := Lib.hid hsized
    have Xhknt := Lib.hid hknt
    have Xhtl := Lib.hid htl
    clear hready hstep hbeh hdt hfixk hkn hfix hvar hr hl ih heb hes hW1 k1 hset1 hM hszs hfine hsized hknt htl
    go_enter Try.func59, Try.ntmps59
    go_wp2_with fail
    go_step3
    go_upto_region 5 with fail
    rw [XhW1.out]
    rw [XhM.out] at z1 lS lN hbase ⊢
    go_wp2_with fail
    go_loopw [38] (fun i' wr => ∃ k : Nat, k ≤ ss.length ∧ i' = .int .i64 (k : Int) ∧ Keep (fun b => b ≠ M ∧ b < W1.heap.size) W1 wr ∧ SetIn wr M (knownS (ss.take k))) (fun i _ => ss.length - (intOf i).toNat)
    case atStart => exact ⟨0, by omega, rfl, Keep.refl _ _, by rw [List.take_zero]; exact Xhset1.out⟩
    case round =>
      obtain ⟨k, hk, rfl, hK, hS⟩ := hrel
      have hsz := hK.size
      have kw : Keep (fun b => b < M) w wr := (Xk1.out.mono fun _ _ _ => trivial).trans (hK.mono fun b _ h => by omega)
      by_cases hlt : k < ss.length
      · have hlt1 : (k : Int) < ss.length := by omega
        have hk0 : (0 : Int) ≤ k := by omega
        obtain ⟨x, hx⟩ : ∃ x, ss[k]? = some x := ⟨_, List.getElem?_eq_getElem hlt⟩
        obtain ⟨b8, o8, rfl, hb8, bv, nv, hcl, hbv, hnv⟩ := Xhes.out k x hx
        have hsn := Xhknt.out k _ hx
        obtain ⟨n2, bd, nw⟩ := x
        simp only at hcl hbv hnv hsn
        obtain ⟨abv, cbv, rfl, hlbv, -, -⟩ := id hbv
        obtain ⟨anv, cnv, rfl, hlnv, -, -⟩ := id hnv
        have d0 := kw.cell (hcl 0 _ rfl) (show b8 < M by have := XhM.out; omega)
        have d1 := kw.cell (hcl 1 _ rfl) (show b8 < M by have := XhM.out; omega)
        have d2 := kw.cell (hcl 2 _ rfl) (show b8 < M by have := XhM.out; omega)
        simp only [Nat.add_zero] at d0
        have hb8w : b8 < wr.heap.size := by have := XhM.out; omega
        obtain ⟨D, hD⟩ : ∃ D, wr.heap.size = D := ⟨_, rfl⟩
        obtain ⟨W5, hW5⟩ : ∃ W5, wr.alloc (.cells #[.int .i64 n2, .slice abv bd.length cbv, .slice anv nw.length cnv] 73) = W5 := ⟨_, rfl⟩
        have k5 : Keep (fun _ => True) wr W5 := by rw [← hW5]; exact Keep.alloc _ _ _
        have bD := new_block wr (.cells #[.int .i64 n2, .slice abv bd.length cbv, .slice anv nw.length cnv] 73)
        rw [hW5, hD] at bD
        have p0 := cells_of_block bD 0 _ rfl
        have p1 := cells_of_block bD 1 _ rfl
        have p2 := cells_of_block bD 2 _ rfl
        simp only [Nat.zero_add] at p0 p1 p2
        have hDl := heap_lt bD
        have hlrn := learn_any w.heap.size M (knownS (ss.take k)) ⟨n2, bd, nw⟩ (.slice abv bd.length cbv) (.slice anv nw.length cnv) W5 (hS.keep k5 trivial) (strs_kept hnv ((kw.trans (k5.mono fun _ _ _ => trivial)).mono fun b _ h => by have := XhM.out; omega)) (by have := k5.size; have := XhM.out; omega)
        unfold stepV at hlrn
        simp only at hlrn
        clear hcl hbv hnv bD hx
        have XhK := Lib.hid hK
        have XhS := Lib.hid hS
        have Xkw := Lib.hid kw
        have Xhlrn := Lib.hid hlrn
        have XhW5 := Lib.hid hW5
        have Xk5 := Lib.hid k5
        have XhD := Lib.hid hD
        have Xhsn := Lib.hid hsn
        clear hK hS kw hlrn hW5 k5 hD hsn
        go_upto_region 8 with fail
        rw [XhW5.out, XhD.out]
        go_wp2_with fail
        refine Xhlrn.out.mono ?_
        rintro e W6 ⟨rfl, hS6, k6⟩
        have XhS6 := Lib.hid hS6
        have Xk6 := Lib.hid k6
        clear hS6 k6
        go_wp2_with fail
        go_roundw
        case rel => exact ⟨k + 1, by omega, by go_num, (XhK.out.trans (Xk5.out.mono fun _ _ _ => trivial)).trans (Xk6.out.mono fun b _ h => h.1), by rw [Xhsn.out]; exact XhS6.out⟩
        case measure => simp [intOf]; omega
      · obtain rfl : k = ss.length := by omega
        rw [List.take_length] at hS
        have hlt0 : ¬ (ss.length : Int) < ss.length := by omega
        obtain ⟨W2, hW2⟩ : ∃ W, W = wr := ⟨_, rfl⟩
        subst hW2
        have kw2 : Keep (fun b => b < w.heap.size) w W2 := kw.mono fun b _ h => by have := XhM.out; omega
        have hv2 := Xhvar.out.keep kw2 (fun b h => h)
        have f22 := kw2.cell f2 (show N < w.heap.size by have := XhM.out; omega)
        have lN2 : N < W2.heap.size := by omega
        clear hK s1 f21 kw
        have XhS := Lib.hid hS
        have Xkw2 := Lib.hid kw2
        have Xhv2 := Lib.hid hv2
        clear hS kw2 hv2
        go_wp2_with fail
        go_step3
        go_wp2_with fail
        go_loopw [49] (fun i' wq => ∃ (i : Nat) (stvi bsvi : Value), i ≤ body.length ∧ i' = .int .i64 (i : Int) ∧ VarM base S Lb P TK pp bh bb stvi ss tk bsvi (dfsTo body l m tk rows cost ss best i) wq ∧ SetIn wq M (knownS ss) ∧ (∀ b, stvi.ownBlock = some b → Value.ownBlock (.slice ast ss.length cst) = some b ∨ w.heap.size ≤ b) ∧
          Keep (fun b => b < w.heap.size ∧ b ≠ S ∧ b ≠ Lb ∧ b ≠ P ∧ b ≠ TK ∧ Value.ownBlock (.slice ast ss.length cst) ≠ some b) w wq) (fun i _ => body.length - (intOf i).toNat)
        case atStart => exact ⟨0, _, _, by omega, rfl, Xhv2.out, XhS.out, fun b hb => .inl hb, Xkw2.out.mono fun b _ h => h.1⟩
        case round =>
          obtain ⟨i, stvi, bsvi, hi, rfl, hv, hSq, hsb, hKq⟩ := hrel
          have hszq := hKq.size
          have hfx := Xhfixk.out wr hKq
          have hnq := Xhkn.out wr hKq
          obtain ⟨asi, csi, rfl⟩ := hv.own.form
          obtain ⟨bi, hbi⟩ : ∃ b, dfsTo body l m tk rows cost ss best i = b := ⟨_, rfl⟩
          have hfi : FineB (dfsTo body l m tk rows cost ss best i) := Xhdt.out i
          rw [hbi] at hv hfi
          obtain ⟨abi, cbi, rfl⟩ := hv.bown.form
          by_cases hlti : i < body.length
          · have hlti1 : (i : Int) < body.length := by omega
            have hi0 : (0 : Int) ≤ i := by omega
            obtain ⟨x, hx⟩ : ∃ x, body[i]? = some x := ⟨_, List.getElem?_eq_getElem hlti⟩
            obtain ⟨b4, o4, rfl, hb4, sa, hcl4, hsa⟩ := Xheb.out i x hx
            have hgd : body.getD i default = x := by rw [List.getD_eq_getElem?_getD, hx]; rfl
            have hkd := Xhkd.out x (List.mem_of_getElem? hx)
            have hxl := Xhsized.out.2.2 x (List.mem_of_getElem? hx)
            obtain ⟨tb, htb⟩ : ∃ t, tk.getD i true = t := ⟨_, rfl⟩
            have hltk : i < tk.length := by rw [Xhtl.out]; exact hlti
            have hvis : dfsTo body l m tk rows cost ss best (i + 1) = visit body l (dfs body l m) tk rows cost ss bi i := by rw [dfsTo_succ, hbi]
            unfold visit at hvis
            rw [htb, hgd] at hvis
            obtain ⟨W5, hW5⟩ : ∃ W5, wr.alloc (.cells (litCells x sa).toArray 78) = W5 := ⟨_, rfl⟩
            have k5 : Keep (fun _ => True) wr W5 := by rw [← hW5]; exact Keep.alloc _ _ _
            have z5 : W5.heap.size = wr.heap.size + 1 := by rw [← hW5]; simp
            have bD := new_block wr (.cells (litCells x sa).toArray 78)
            rw [hW5] at bD
            obtain ⟨D, hD⟩ : ∃ D, wr.heap.size = D := ⟨_, rfl⟩
            rw [hD] at bD
            have hS5 := hSq.keep k5 trivial
            have hn5 := hnq.trans (k5.mono fun _ _ _ => trivial)
            have hnW : n ≤ W5.heap.size := by have := XhM.out; omega
            have hrd := Xhready.out i x hx M sa hsa W5 hS5 hn5 hnW
            have hstp := Xhstep.out i x hx M
            have hbh := Xhbeh.out x hkd sa
            obtain ⟨asa, csa, rfl, hlx, -, -⟩ := id hsa
            unfold litV stepV at hbh
            unfold litV at hrd
            unfold litCells at hW5 bD
            have g : ∀ j v, (litCells x (.slice asa x.atom.args.length csa))[j]? = some v → wr.cell? ⟨b4, o4 + i * 7 + j, none⟩ = some v := fun j v h => hnq.cell (hcl4 j v h) hb4
            have m0 := g 0 _ rfl
            have m1 := g 1 _ rfl
            have m2 := g 2 _ rfl
            have m3 := g 3 _ rfl
            have m4 := g 4 _ rfl
            have m5 := g 5 _ rfl
            have m6 := g 6 _ rfl
            simp only [Nat.add_zero] at m0
            have hb4w : b4 < wr.heap.size := by have := XhM.out; omega
            have hfx5 := hfx.keep k5 trivial trivial trivial trivial
            have hv5 := hv.keep k5 (fun _ _ => trivial)
            have t0 := cells_of_block hfx5.take 0 _ rfl
            have tc : W5.cell? ⟨TK, i, none⟩ = some (.bool tb) := by
              have := cells_of_block hv5.taken i (.bool tb) (by rw [List.getElem?_map, List.getElem?_eq_getElem hltk, ← htb, List.getD_eq_getElem?_getD, List.getElem?_eq_getElem hltk]; rfl)
              rwa [Nat.zero_add] at this
            have q0 := cells_of_block bD 0 _ rfl
            have q1 := cells_of_block bD 1 _ rfl
            have q2 := cells_of_block bD 2 _ rfl
            have q3 := cells_of_block bD 3 _ rfl
            have q4 := cells_of_block bD 4 _ rfl
            have q5 := cells_of_block bD 5 _ rfl
            have q6 := cells_of_block bD 6 _ rfl
            simp only [Nat.zero_add] at t0 q0 q1 q2 q3 q4 q5 q6
            have lT := heap_lt hfx5.take
            have lTK := heap_lt hv5.taken
            have lD := heap_lt bD
            have hK5 := hKq.trans (k5.mono fun _ _ _ => trivial)
            clear g hcl4 hx hgd hfx hv hnq
            cases tb
            · obtain ⟨rb, hrb⟩ : ∃ b, readyP (knownS ss) x = b := ⟨_, rfl⟩
              rw [hrb] at hrd hvis
              cases rb
              · have hvis2 : dfsTo body l m tk rows cost ss best (i + 1) = bi := by rw [hvis]; rfl
                clear hvis hbh hstp
                have Xhvis2 := Lib.hid hvis2
                have Xhbi := Lib.hid hbi
                have Xhfi := Lib.hid hfi
                have XhKq := Lib.hid hKq
                have XhSq := Lib.hid hSq
                have Xhsb := Lib.hid hsb
                have XhW5 := Lib.hid hW5
                have Xk5 := Lib.hid k5
                have XbD := Lib.hid bD
                have XhD := Lib.hid hD
                have XhS5 := Lib.hid hS5
                have Xhn5 := Lib.hid hn5
                have Xhrd := Lib.hid hrd
                have Xhfx5 := Lib.hid hfx5
                have Xhv5 := Lib.hid hv5
                have XhK5 := Lib.hid hK5
                have Xhtb := Lib.hid htb
                have Xhrb := Lib.hid hrb
                have Xhsa := Lib.hid hsa
                clear hvis2 hbi hfi hKq hSq hsb hW5 k5 bD hD hS5 hn5 hrd hfx5 hv5 hK5 htb hrb hsa
                go_upto_region 13 with fail
                rw [XhW5.out, XhD.out]
                go_wp2_with fail
                refine Xhrd.out.mono ?_
                rintro e W6 ⟨rfl, k6⟩
                have hv6 := Xhv5.out.keep k6 (fun _ h => h)
                have hS6 := XhS5.out.keep k6 (by have := XhS5.out.lt; exact this)
                have hK6 := XhK5.out.trans (k6.mono fun b _ h => by have := XhK5.out.size; omega)
                clear k6
                have Xhv6 := Lib.hid hv6
                have XhS6 := Lib.hid hS6
                have XhK6 := Lib.hid hK6
                clear hv6 hS6 hK6
                go_wp2_with fail
                go_roundw
                case rel => exact ⟨i + 1, _, _, by omega, by go_num, by rw [Xhvis2.out]; exact Xhv6.out, XhS6.out, Xhsb.out, XhK6.out⟩
                case measure => simp [intOf]; omega
              · simp only [Bool.not_true, Bool.or_self, Bool.false_eq_true, if_false] at hvis
                obtain ⟨hsl1, hsl2, hsl3⟩ := step_len (knownS ss) x i
                have hslit := step_lit (knownS ss) x i
                obtain ⟨st, hste⟩ : ∃ st, stepP (knownS ss) x i = st := ⟨_, rfl⟩
                rw [hste] at hsl1 hsl2 hsl3 hslit hvis
                simp only [hste] at hstp
                obtain ⟨slit, sbd, snw⟩ := st
                simp only at hsl1 hsl2 hsl3 hslit hvis hstp
                subst hslit
                obtain ⟨nb, hnb⟩ : ∃ nb, behindD rows x sbd l = nb := ⟨_, rfl⟩
                have hnbl : nb ≤ 9094988921128908188 := by rw [← hnb]; exact behind_le hrows x sbd hU
                rw [hnb] at hvis
                have hbh2 := hbh ⟨_, _, _, rfl⟩ ⟨(i : Int), sbd, snw⟩ hsl3
                simp only [hnb] at hbh2
                obtain ⟨cc, hcc⟩ : ∃ c, fadd cost nb = c := ⟨_, rfl⟩
                have hcm : cc ≤ most (ss.length + 1) := by rw [← hcc]; exact sum_most (by omega) hcost hnbl
                have hcf : cc < 9218868437227405312 := by have := most_fin (show ss.length + 1 ≤ 256 by omega); omega
                have hadd := fun w => run_fadd (a := cost) (b := nb) (by have := most_fin (show ss.length ≤ 256 by omega); omega) (by omega) w
                rw [hcc] at hvis
                simp only [hcc] at hadd
                obtain ⟨lv, hlv⟩ : ∃ lv, lstB bi = lv := ⟨_, rfl⟩
                have hcond : (pruneB bi cc = true ∧ (FloatKind.f64.format.order lv 0 == some .gt || FloatKind.f64.format.order lv 0 == some .eq) = true ∧ (FloatKind.f64.format.order cc lv == some .gt) = true) ∨
                    (pruneB bi cc = false ∧ ((FloatKind.f64.format.order lv 0 == some .gt || FloatKind.f64.format.order lv 0 == some .eq) = false ∨ ((FloatKind.f64.format.order lv 0 == some .gt || FloatKind.f64.format.order lv 0 == some .eq) = true ∧ (FloatKind.f64.format.order cc lv == some .gt) = false))) := by
                  cases bi with
                  | none => exact .inr ⟨rfl, .inl (by rw [← hlv]; exact neg_geq)⟩
                  | some p =>
                    obtain ⟨b, s⟩ := p
                    have hbf := hfi b s rfl
                    have e : lv = b := hlv.symm
                    have e0 : (FloatKind.f64.format.order lv 0 == some .gt || FloatKind.f64.format.order lv 0 == some .eq) = true := by rw [e]; exact geq_zero hbf
                    have e1 : (FloatKind.f64.format.order cc lv == some .gt) = decide (b < cc) := by rw [e, gtr_fin hcf hbf]
                    by_cases hlt : b < cc
                    · exact .inl ⟨decide_eq_true hlt, e0, by rw [e1, decide_eq_true hlt]⟩
                    · exact .inr ⟨decide_eq_false hlt, .inr ⟨e0, by rw [e1, decide_eq_false hlt]⟩⟩
                clear hnb hste hbh
                have hrn := Xhfix.out.rule
                have Xhvis := Lib.hid hvis
                have Xhbi := Lib.hid hbi
                have Xhfi := Lib.hid hfi
                have XhKq := Lib.hid hKq
                have XhSq := Lib.hid hSq
                have Xhsb := Lib.hid hsb
                have XhW5 := Lib.hid hW5
                have Xk5 := Lib.hid k5
                have XbD := Lib.hid bD
                have XhD := Lib.hid hD
                have XhS5 := Lib.hid hS5
                have Xhn5 := Lib.hid hn5
                have Xhrd := Lib.hid hrd
                have Xhfx5 := Lib.hid hfx5
                have Xhv5 := Lib.hid hv5
                have XhK5 := Lib.hid hK5
                have Xhtb := Lib.hid htb
                have Xhrb := Lib.hid hrb
                have Xhsa := Lib.hid hsa
                have Xhstp := Lib.hid hstp
                have Xhsl3 := Lib.hid hsl3
                have Xhbh2 := Lib.hid hbh2
                have Xhcc := Lib.hid hcc
                have Xhcond := Lib.hid hcond
                have Xhlv := Lib.hid hlv
                have Xhrn := Lib.hid hrn
                clear hvis hbi hfi hKq hSq hsb hW5 k5 bD hD hS5 hn5 hrd hfx5 hv5 hK5 htb hrb hsa hstp hsl3 hbh2 hcc hcond hlv hrn
                go_upto_region 13 with fail
                rw [XhW5.out, XhD.out]
                go_wp2_with fail
                refine Xhrd.out.mono ?_
                rintro e W6 ⟨rfl, k6⟩
                have hz6 := k6.size
                have hv6 := Xhv5.out.keep k6 (fun _ h => h)
                have hS6 := XhS5.out.keep k6 (by have := XhS5.out.lt; exact this)
                have hK6 := XhK5.out.trans (k6.mono fun b _ h => by have := XhK5.out.size; omega)
                have hfx6 := Xhfx5.out.keep k6 (heap_lt Xhfx5.out.rule) (heap_lt Xhfx5.out.size) (heap_lt Xhfx5.out.take) (heap_lt Xhfx5.out.next)
                have hn6 : Keep (fun b => b < n) w W6 := Xhn5.out.trans (k6.mono fun b _ h => by omega)
                have bD6 := k6.heap XbD.out lD
                have hst6 := Xhstp.out W6 hS6 hn6 (by omega)
                have r0 := cells_of_block hfx6.rule 0 _ rfl
                have r1 := cells_of_block hfx6.rule 1 _ rfl
                have r2 := cells_of_block hfx6.rule 2 _ rfl
                simp only [Nat.zero_add] at r0 r1 r2
                have lN6 := heap_lt hfx6.rule
                clear k6 m0 m1 m2 m3 m4 m5 m6 t0 tc q0 q1 q2 q3 q4 q5 q6
                have Xhv6 := Lib.hid hv6
                have XhS6 := Lib.hid hS6
                have XhK6 := Lib.hid hK6
                have Xhfx6 := Lib.hid hfx6
                have Xhn6 := Lib.hid hn6
                have XbD6 := Lib.hid bD6
                have Xhst6 := Lib.hid hst6
                clear hv6 hS6 hK6 hfx6 hn6 bD6 hst6
                go_wp2_with fail
                refine Xhst6.out.mono ?_
                rintro e W7 ⟨vb, vn, rfl, ob, on, k7⟩
                have hz7 := k7.size
                obtain ⟨abx, cbx, rfl⟩ := own_form ob
                obtain ⟨anx, cnx, rfl⟩ := own_form on
                obtain ⟨W8, hW8⟩ : ∃ W8, W7.alloc (.cells #[.int .i64 (i : Int), .slice abx sbd.length cbx, .slice anx snw.length cnx] 73) = W8 := ⟨_, rfl⟩
                have k8 : Keep (fun _ => True) W7 W8 := by rw [← hW8]; exact Keep.alloc _ _ _
                have z8 : W8.heap.size = W7.heap.size + 1 := by rw [← hW8]; simp
                have bE := new_block W7 (.cells #[.int .i64 (i : Int), .slice abx sbd.length cbx, .slice anx snw.length cnx] 73)
                obtain ⟨E, hE⟩ : ∃ E, W7.heap.size = E := ⟨_, rfl⟩
                rw [hW8, hE] at bE
                have k68 : Keep (fun b => b < W6.heap.size) W6 W8 := k7.trans (k8.mono fun _ _ _ => trivial)
                have hv8 := Xhv6.out.keep k68 (fun _ h => h)
                have hS8 := XhS6.out.keep k68 (by have := XhS6.out.lt; exact this)
                have hK8 := XhK6.out.trans (k68.mono fun b _ h => by have := XhK6.out.size; omega)
                have hfx8 := Xhfx6.out.keep k68 (heap_lt Xhfx6.out.rule) (heap_lt Xhfx6.out.size) (heap_lt Xhfx6.out.take) (heap_lt Xhfx6.out.next)
                have hn8 : Keep (fun b => b < n) w W8 := Xhn6.out.trans (k68.mono fun b _ h => by omega)
                have bD8 := k68.heap XbD6.out (heap_lt XbD6.out)
                have ob8 := own_kept ob k8 (fun _ _ => trivial)
                have on8 := own_kept on k8 (fun _ _ => trivial)
                have q0 := cells_of_block bD8 0 _ rfl
                have q1 := cells_of_block bD8 1 _ rfl
                have q2 := cells_of_block bD8 2 _ rfl
                have q3 := cells_of_block bD8 3 _ rfl
                have q4 := cells_of_block bD8 4 _ rfl
                have q5 := cells_of_block bD8 5 _ rfl
                have q6 := cells_of_block bD8 6 _ rfl
                have p0 := cells_of_block bE 0 _ rfl
                have p1 := cells_of_block bE 1 _ rfl
                have p2 := cells_of_block bE 2 _ rfl
                have zc := cells_of_block hfx8.size 0 _ rfl
                simp only [Nat.zero_add] at q0 q1 q2 q3 q4 q5 q6 p0 p1 p2 zc
                have lD8 := heap_lt bD8
                have lE8 := heap_lt bE
                have lZ8 := heap_lt hfx8.size
                have hbh8 := Xhbh2.out (.slice abx sbd.length cbx) (.slice anx snw.length cnx) W8 hn8 ⟨_, _, _, rfl⟩ (own_ints ob8 (by omega)) (by omega)
                clear k7 k8 ob on r0 r1 r2 k68
                have XhW8 := Lib.hid hW8
                have XhE := Lib.hid hE
                have XbE := Lib.hid bE
                have Xhv8 := Lib.hid hv8
                have XhS8 := Lib.hid hS8
                have XhK8 := Lib.hid hK8
                have Xhfx8 := Lib.hid hfx8
                have Xhn8 := Lib.hid hn8
                have XbD8 := Lib.hid bD8
                have Xob8 := Lib.hid ob8
                have Xon8 := Lib.hid on8
                have Xhbh8 := Lib.hid hbh8
                clear hW8 hE bE hv8 hS8 hK8 hfx8 hn8 bD8 ob8 on8 hbh8
                go_upto_region 15 with fail
                rw [XhW8.out, XhE.out]
                go_wp2_with fail
                refine Xhbh8.out.mono ?_
                rintro e W9 ⟨rfl, k9⟩
                have hz9 := k9.size
                have hv9 := Xhv8.out.keep k9 (fun _ h => h)
                have hS9 := XhS8.out.keep k9 (by have := XhS8.out.lt; exact this)
                have hK9 := XhK8.out.trans (k9.mono fun b _ h => by have := XhK8.out.size; omega)
                have hfx9 := Xhfx8.out.keep k9 (heap_lt Xhfx8.out.rule) (heap_lt Xhfx8.out.size) (heap_lt Xhfx8.out.take) (heap_lt Xhfx8.out.next)
                have hn9 : Keep (fun b => b < n) w W9 := Xhn8.out.trans (k9.mono fun b _ h => by omega)
                have bE9 := k9.heap XbE.out lE8
                have ob9 := own_kept Xob8.out k9 (fun b hb => (World.ownsRow.lt Xob8.out b hb).2)
                have on9 := own_kept Xon8.out k9 (fun b hb => (World.ownsRow.lt Xon8.out b hb).2)
                have l0 := cells_of_block hv9.least 0 _ rfl
                simp only [Nat.zero_add] at l0
                rw [Xhlv.out] at l0
                have lL9 := heap_lt hv9.least
                clear k9 q0 q1 q2 q3 q4 q5 q6 p0 p1 p2 zc
                have Xhv9 := Lib.hid hv9
                have XhS9 := Lib.hid hS9
                have XhK9 := Lib.hid hK9
                have Xhfx9 := Lib.hid hfx9
                have Xhn9 := Lib.hid hn9
                have XbE9 := Lib.hid bE9
                have Xob9 := Lib.hid ob9
                have Xon9 := Lib.hid on9
                clear hv9 hS9 hK9 hfx9 hn9 bE9 ob9 on9
                rcases Xhcond.out with ⟨hp1, hp2, hp3⟩ | ⟨hp1, hp2⟩
                · have hvis2 : dfsTo body l m tk rows cost ss best (i + 1) = bi := by rw [Xhvis.out, hp1]; rfl
                  clear hp1
                  have Xhvis2 := Lib.hid hvis2
                  clear hvis2
                  go_wp2_with fail
                  go_roundw
                  case rel => exact ⟨i + 1, _, _, by omega, by go_num, by rw [Xhvis2.out]; exact Xhv9.out, XhS9.out, Xhsb.out, XhK9.out⟩
                  case measure => simp [intOf]; omega
                · have hvis2 : dfsTo body l m tk rows cost ss best (i + 1) = dfs body l m (tk.set i true) nb cc (ss ++ [⟨(i : Int), sbd, snw⟩]) bi := by rw [Xhvis.out, hp1]; rfl
                  clear hp1
                  have t0 := cells_of_block Xhfx9.out.take 0 _ rfl
                  have htx : i < (tk.map Value.bool).length := by rw [List.length_map]; exact hltk
                  have tc := cells_of_block Xhv9.out.taken i _ (List.getElem?_eq_getElem htx)
                  have tf := box_free Xhv9.out.taken i
                  simp only [Nat.zero_add] at t0 tc
                  have lT9 := heap_lt Xhfx9.out.take
                  have lTK9 := heap_lt Xhv9.out.taken
                  obtain ⟨W10, hW10⟩ : ∃ W, W9.setCell ⟨TK, i, none⟩ (.bool true) = W := ⟨_, rfl⟩
                  have k10 : Keep (fun b => b ≠ TK) W9 W10 := by rw [← hW10]; exact Keep.setCell _ _ _ (by simp)
                  have z10 : W10.heap.size ≤ W9.heap.size := by rw [← hW10]; simp [World.setCell]
                  have z10b := k10.size
                  have hT10 := set_at i (.bool true) Xhv9.out.taken
                  rw [hW10, show (tk.map Value.bool).toArray.setIfInBounds i (.bool true) = ((tk.set i true).map Value.bool).toArray from by rw [List.setIfInBounds_toArray, List.map_set]] at hT10
                  have hSt10 := k10.heap Xhv9.out.steps (show S ≠ TK by omega)
                  have hL10 := k10.heap Xhv9.out.least (show Lb ≠ TK by omega)
                  have hP10 := k10.heap Xhv9.out.plan (show P ≠ TK by omega)
                  have how10 := Xhv9.out.own.keep k10 (fun b cs t h _ _ => by omega)
                  have hbo10 := Xhv9.out.bown.keep k10 (fun b cs t h _ _ => by omega)
                  have hM9 : M = w.heap.size := XhM.out.symm
                  have ob10 := own_kept Xob9.out k10 (fun b hb => by have := (World.ownsRow.lt Xob9.out b hb).1; omega)
                  have on10 := own_kept Xon9.out k10 (fun b hb => by have := (World.ownsRow.lt Xon9.out b hb).1; omega)
                  have bE10 := k10.heap XbE9.out (show E ≠ TK by have := XhE.out; omega)
                  obtain ⟨v', W11, hr11, how11, k11, hg11⟩ := how10.snocB ⟨(i : Int), sbd, snw⟩ _ _ (ob10.mono (show base ≤ W6.heap.size by omega)) (on10.mono (show base ≤ W6.heap.size by omega)) (by omega) (by omega)
                  obtain ⟨av, cv, rfl⟩ := how11.form
                  have hl11 : (ss ++ [(⟨(i : Int), sbd, snw⟩ : StepD)]).length = ss.length + 1 := by rw [List.length_append]; rfl
                  rw [hl11] at hr11 how11 hg11
                  have hst9 : ∀ b, some b = Value.ownBlock (.slice asi ss.length csi) → base ≤ b ∧ b < W9.heap.size := fun b e => by
                    obtain ⟨h1, h2, _⟩ := Xhv9.out.own.typed e.symm
                    exact ⟨h1, h2⟩
                  have hSt11 := k11.heap hSt10 (fun e => by have := (hst9 S e).1; omega)
                  have hL11 := k11.heap hL10 (fun e => by have := (hst9 Lb e).1; omega)
                  have hP11 := k11.heap hP10 (fun e => by have := (hst9 P e).1; omega)
                  have hT11 := k11.heap hT10 (fun e => by have := (hst9 TK e).1; omega)
                  have hbo11 := hbo10.keepO k11 (fun b hb e => Xhv9.out.sep b hb e.symm) (fun b cs t h hcs ht e => by
                    obtain ⟨_, _, cs2, h2⟩ := how10.typed e.symm
                    rw [hcs] at h2
                    cases h2
                    rcases ht with ht | ht <;> exact absurd ht (by decide))
                  have hz11 := k11.size
                  have lS11 := heap_lt hSt11
                  have s10 := cells_of_block hSt10 0 _ rfl
                  have s11 := cells_of_block hSt11 0 _ rfl
                  have s11f := box_free hSt11 0
                  have p0 := cells_of_block bE10 0 _ rfl
                  have p1 := cells_of_block bE10 1 _ rfl
                  have p2 := cells_of_block bE10 2 _ rfl
                  simp only [Nat.zero_add] at s10 s11 p0 p1 p2
                  have lE10 := heap_lt bE10
                  have lS10 := heap_lt hSt10
                  obtain ⟨W12, hW12⟩ : ∃ W, W11.setCell ⟨S, 0, none⟩ (.slice av (ss.length + 1) cv) = W := ⟨_, rfl⟩
                  have k12 : Keep (fun b => b ≠ S) W11 W12 := by rw [← hW12]; exact Keep.setCell _ _ _ (by simp)
                  have z12 : W12.heap.size ≤ W11.heap.size := by rw [← hW12]; simp [World.setCell]
                  have z12b := k12.size
                  have hSt12 := set_box (.slice av (ss.length + 1) cv) hSt11
                  rw [hW12] at hSt12
                  have hav : ∀ b, Value.ownBlock (.slice av (ss.length + 1) cv) = some b → base ≤ b ∧ (Value.ownBlock (.slice asi ss.length csi) = some b ∨ W9.heap.size ≤ b) := fun b hb => ⟨(how11.typed hb).1, by rcases hg11 b hb with h | h; exact .inl h; exact .inr (by omega)⟩
                  have hv12 : VarM base S Lb P TK pp bh bb (.slice av (ss.length + 1) cv) (ss ++ [⟨(i : Int), sbd, snw⟩]) (tk.set i true) (.slice abi (stpB bi).length cbi) bi W12 :=
                    ⟨hSt12, k12.heap hL11 (by omega), k12.heap hP11 (by omega), k12.heap hT11 (by omega), how11.keep k12 (fun b cs t h _ _ => by omega), hbo11.keep k12 (fun b cs t h _ _ => by omega), fun b hb e => by
                      rcases (hav b e).2 with h | h
                      · exact Xhv9.out.sep b hb h
                      · have := (Xhv9.out.bown.typed hb).2.1; omega⟩
                  have k912 : Keep (fun b => b ≠ TK ∧ b ≠ S ∧ (b < base ∨ Value.ownBlock (.slice asi ss.length csi) ≠ some b)) W9 W12 := ((k10.mono fun b _ h => h.1).trans (k11.mono fun b _ h e => by
                      rcases h.2.2 with h | h
                      · have := (hst9 b e).1; omega
                      · exact h e.symm)).trans (k12.mono fun b _ h => h.2.1)
                  have hfx12 := Xhfx9.out.keep k912 ⟨by omega, by omega, .inl (by omega)⟩ ⟨by omega, by omega, .inl (by omega)⟩ ⟨by omega, by omega, .inl (by omega)⟩ ⟨by omega, by omega, .inl (by omega)⟩
                  have hn12 : Keep (fun b => b < n) w W12 := Xhn9.out.trans (k912.mono fun b _ h => ⟨by omega, by omega, .inl (by omega)⟩)
                  have hM12 : Value.ownBlock (.slice asi ss.length csi) ≠ some M := fun e => by
                    obtain ⟨_, _, cs, h⟩ := Xhv9.out.own.typed e
                    obtain ⟨es, c, h1, -⟩ := XhS9.out
                    rw [h] at h1
                    cases h1
                  have hS12 := XhS9.out.keep k912 ⟨by omega, by omega, .inr hM12⟩
                  have hszd : sizedS (ss ++ [(⟨(i : Int), sbd, snw⟩ : StepD)]) := ⟨by rw [hl11]; omega, fun s hs => by
                    rcases List.mem_append.1 hs with hs | hs
                    · exact Xhszs.out.2 s hs
                    · simp only [List.mem_singleton] at hs
                      subst hs
                      simp only
                      omega⟩
                  have hih := Xih.out (ss ++ [⟨(i : Int), sbd, snw⟩]) (tk.set i true) nb cc bi (.slice av (ss.length + 1) cv) (.slice abi (stpB bi).length cbi) W12 (by rw [hl11]; omega) (by rw [List.length_set]; exact Xhtl.out) hnbl (by rw [hl11]; exact hcm) Xhfi.out hszd hfx12 hv12 (Xhr.out.keep hn12) (Xhl.out.keep hn12) (by omega)
                  have x0 := cells_of_block hfx12.next 0 _ rfl
                  simp only [Nat.zero_add] at x0
                  have lX12 := heap_lt hfx12.next
                  have hK12 := XhK9.out.trans (k912.mono fun b hb h => ⟨h.2.2.2.2.1, h.2.1, .inr fun e => by
                    rcases Xhsb.out b e with h1 | h1
                    · exact h.2.2.2.2.2 h1
                    · have := h.1; omega⟩)
                  clear k10 hT10 hSt10 hL10 hP10 how10 hbo10 ob10 on10 bE10 how11 k11 hg11 hSt11 hL11 hP11 hT11 hbo11 k12 hSt12 k912 l0
                  have Xhvis2 := Lib.hid hvis2
                  have XhW10 := Lib.hid hW10
                  have Xhr11 := Lib.hid hr11
                  have XhW12 := Lib.hid hW12
                  have Xhv12 := Lib.hid hv12
                  have Xhfx12 := Lib.hid hfx12
                  have Xhn12 := Lib.hid hn12
                  have XhM12 := Lib.hid hM12
                  have XhS12 := Lib.hid hS12
                  have Xhih := Lib.hid hih
                  have XhK12 := Lib.hid hK12
                  have Xhst9 := Lib.hid hst9
                  have Xhav := Lib.hid hav
                  have XhM9 := Lib.hid hM9
                  have Xhl11 := Lib.hid hl11
                  clear hvis2 hW10 hr11 hW12 hv12 hfx12 hn12 hM12 hS12 hih hK12 hst9 hav hM9 hl11
                  rcases hp2 with hp2 | ⟨hp2, hp3⟩
                  all_goals
                    have l0 := cells_of_block Xhv9.out.least 0 _ rfl
                    simp only [Nat.zero_add] at l0
                    rw [Xhlv.out] at l0
                    go_upto_region 18 with fail
                    rw [XhW10.out]
                    go_upto_region 19 with (at_builtin; refine go_app (v := .slice asi ss.length csi) (u := .slice (some ⟨W10.heap.size, 0, none⟩) 1 1) (v' := .slice av (ss.length + 1) cv) (w' := W11) rfl (.tmp 85) (.tmp 87) 32 rfl rfl rfl Xhr11.out ?_)
                    rw [XhW12.out]
                    go_wp2_with fail
                    refine Xhih.out.mono ?_
                    rintro e W13 ⟨rfl, stv3, bsv3, hv13, hg13, k13⟩
                    have hz13 := k13.size
                    obtain ⟨a3, c3, rfl⟩ := hv13.own.form
                    rw [Xhl11.out] at hv13 hg13
                    have hcap3 : ss.length + 1 ≤ c3 := by
                      obtain ⟨qs, _, ho, _⟩ := hv13.own
                      rw [Xhl11.out] at ho
                      rcases ho.2 with ⟨h1, h2⟩ | ⟨g, cap, cur, h1, hb, hg, hnc, _⟩
                      · omega
                      · cases h1; exact hnc
                    have hc1 : ss.length ≤ c3 := by omega
                    have hc2 : (ss.length : Int) ≤ c3 := by omega
                    have hc3 : (0 : Int) ≤ ss.length := by omega
                    have hSM : Value.ownBlock (.slice av (ss.length + 1) cv) ≠ some M := fun e => by
                      obtain ⟨_, _, cs, h⟩ := Xhv12.out.own.typed e
                      obtain ⟨es, c, h1, -⟩ := XhS12.out
                      rw [h] at h1
                      cases h1
                    have havS : ∀ b, b < base → Value.ownBlock (.slice av (ss.length + 1) cv) ≠ some b := fun b hb e => by have := (Xhav.out b e).1; omega
                    have lM12 := XhS12.out.lt
                    have hfx13 := Xhfx12.out.keep k13 ⟨by have := heap_lt Xhfx12.out.rule; omega, by omega, by omega, by omega, by omega, havS _ (by omega)⟩ ⟨by have := heap_lt Xhfx12.out.size; omega, by omega, by omega, by omega, by omega, havS _ (by omega)⟩ ⟨by have := heap_lt Xhfx12.out.take; omega, by omega, by omega, by omega, by omega, havS _ (by omega)⟩ ⟨by have := heap_lt Xhfx12.out.next; omega, by omega, by omega, by omega, by omega, havS _ (by omega)⟩
                    have hS13 := XhS12.out.keep k13 ⟨lM12, by omega, by omega, by omega, by omega, hSM⟩
                    have hK13 : Keep (fun b => b < w.heap.size ∧ b ≠ S ∧ b ≠ Lb ∧ b ≠ P ∧ b ≠ TK ∧ Value.ownBlock (.slice ast ss.length cst) ≠ some b) w W13 := XhK12.out.trans (k13.mono fun b hb h => ⟨hb, h.2.1, h.2.2.1, h.2.2.2.1, h.2.2.2.2.1, fun e => by
                      rcases (Xhav.out b e).2 with h1 | h1
                      · rcases Xhsb.out b h1 with h2 | h2
                        · exact h.2.2.2.2.2 h2
                        · have := h.1; omega
                      · have := h.1; have := XhM9.out; omega⟩)
                    have hsb13 : ∀ b, Value.ownBlock (.slice a3 ss.length c3) = some b → Value.ownBlock (.slice ast ss.length cst) = some b ∨ w.heap.size ≤ b := fun b e => by
                      have e2 : Value.ownBlock (.slice a3 (ss.length + 1) c3) = some b := by cases a3 <;> exact e
                      have := XhM9.out
                      rcases hg13 b e2 with h1 | h1
                      · rcases (Xhav.out b h1).2 with h2 | h2
                        · exact Xhsb.out b h2
                        · right; omega
                      · right; omega
                    have s13 := cells_of_block hv13.steps 0 _ rfl
                    have s13f := box_free hv13.steps 0
                    simp only [Nat.zero_add] at s13
                    have lS13 := heap_lt hv13.steps
                    obtain ⟨W14, hW14⟩ : ∃ W, W13.setCell ⟨S, 0, none⟩ (.slice a3 ss.length c3) = W := ⟨_, rfl⟩
                    have k14 : Keep (fun b => b ≠ S) W13 W14 := by rw [← hW14]; exact Keep.setCell _ _ _ (by simp)
                    have hSt14 := set_box (.slice a3 ss.length c3) hv13.steps
                    rw [hW14] at hSt14
                    have hT14 := k14.heap hv13.taken (show TK ≠ S by omega)
                    have t14 := cells_of_block (k14.heap hfx13.take (show T ≠ S by omega)) 0 _ rfl
                    have htx2 : i < ((tk.set i true).map Value.bool).length := by rw [List.length_map, List.length_set]; exact hltk
                    have tc14 := cells_of_block hT14 i _ (List.getElem?_eq_getElem htx2)
                    have tf14 := box_free hT14 i
                    simp only [Nat.zero_add] at t14 tc14
                    have lT14 := heap_lt (k14.heap hfx13.take (show T ≠ S by omega))
                    have lTK14 := heap_lt hT14
                    obtain ⟨W15, hW15⟩ : ∃ W, W14.setCell ⟨TK, i, none⟩ (.bool false) = W := ⟨_, rfl⟩
                    have k15 : Keep (fun b => b ≠ TK) W14 W15 := by rw [← hW15]; exact Keep.setCell _ _ _ (by simp)
                    have hT15 := set_at i (.bool false) hT14
                    have htk2 : (tk.set i true).set i false = tk := by
                      rw [List.set_set]
                      refine List.ext_getElem? fun j => ?_
                      rw [List.getElem?_set]
                      by_cases hj : i = j
                      · subst hj
                        rw [if_pos rfl, if_pos hltk, List.getElem?_eq_getElem hltk]
                        have := Xhtb.out
                        rw [List.getD_eq_getElem?_getD, List.getElem?_eq_getElem hltk] at this
                        simpa using this.symm
                      · rw [if_neg hj]
                    rw [hW15, show ((tk.set i true).map Value.bool).toArray.setIfInBounds i (.bool false) = (tk.map Value.bool).toArray from by rw [List.setIfInBounds_toArray, show (((tk.set i true).map Value.bool).set i (Value.bool false)) = (((tk.set i true).set i false).map Value.bool) from by simp only [List.map_set], htk2]] at hT15
                    have k1315 : Keep (fun b => b ≠ S ∧ b ≠ TK) W13 W15 := (k14.mono fun b _ h => h.1).trans (k15.mono fun b _ h => h.2)
                    have hv15 : VarM base S Lb P TK pp bh bb (.slice a3 ss.length c3) ss tk bsv3 (dfs body l m (tk.set i true) nb cc (ss ++ [⟨(i : Int), sbd, snw⟩]) bi) W15 :=
                      ⟨k15.heap hSt14 (show S ≠ TK by omega), k1315.heap hv13.least ⟨by omega, by omega⟩, k1315.heap hv13.plan ⟨by omega, by omega⟩, hT15, (hv13.own.cut rfl).keep k1315 (fun b cs t h _ _ => ⟨by omega, by omega⟩), hv13.bown.keep k1315 (fun b cs t h _ _ => ⟨by omega, by omega⟩), fun b hb e => hv13.sep b hb (by cases a3 <;> exact e)⟩
                    have hS15 := hS13.keep k1315 ⟨by omega, by omega⟩
                    have hK15 := hK13.trans (k1315.mono fun b _ h => ⟨h.2.1, h.2.2.2.2.1⟩)
                    clear hv13 hg13 k13 hfx13 hS13 hK13 k14 hSt14 hT14 k15 hT15 k1315 t0 tc tf s10 s11 s11f x0 hcap3
                    have Xhsb13 := Lib.hid hsb13
                    have XhW14 := Lib.hid hW14
                    have XhW15 := Lib.hid hW15
                    have Xhv15 := Lib.hid hv15
                    have XhS15 := Lib.hid hS15
                    have XhK15 := Lib.hid hK15
                    have Xhtk2 := Lib.hid htk2
                    clear hsb13 hW14 hW15 hv15 hS15 hK15 htk2
                    go_upto_region 21 with fail
                    rw [XhW14.out]
                    go_wp2_with fail
                    rw [XhW15.out]
                    go_roundw
                    case rel => exact ⟨i + 1, _, _, by omega, by go_num, by rw [Xhvis2.out]; exact Xhv15.out, XhS15.out, Xhsb13.out, XhK15.out⟩
                    case measure => simp [intOf]; omega
            · have hvis2 : dfsTo body l m tk rows cost ss best (i + 1) = bi := by rw [hvis]; rfl
              clear hvis hbh hstp hrd
              have Xhvis2 := Lib.hid hvis2
              have Xhbi := Lib.hid hbi
              have Xhfi := Lib.hid hfi
              have XhKq := Lib.hid hKq
              have XhSq := Lib.hid hSq
              have Xhsb := Lib.hid hsb
              have XhW5 := Lib.hid hW5
              have Xk5 := Lib.hid k5
              have XbD := Lib.hid bD
              have XhD := Lib.hid hD
              have XhS5 := Lib.hid hS5
              have Xhn5 := Lib.hid hn5
              have Xhfx5 := Lib.hid hfx5
              have Xhv5 := Lib.hid hv5
              have XhK5 := Lib.hid hK5
              have Xhtb := Lib.hid htb
              have Xhsa := Lib.hid hsa
              clear hvis2 hbi hfi hKq hSq hsb hW5 k5 bD hD hS5 hn5 hfx5 hv5 hK5 htb hsa
              go_upto_region 13 with fail
              rw [XhW5.out, XhD.out]
              go_wp2_with fail
              go_roundw
              case rel => exact ⟨i + 1, _, _, by omega, by go_num, by rw [Xhvis2.out]; exact Xhv5.out, XhS5.out, Xhsb.out, XhK5.out⟩
              case measure => simp [intOf]; omega
          · obtain rfl : i = body.length := by omega
            have Xhv := Lib.hid hv
            have XhSq := Lib.hid hSq
            have Xhsb := Lib.hid hsb
            have XhKq := Lib.hid hKq
            have Xhbi := Lib.hid hbi
            clear hv hSq hsb hKq hbi
            go_wp2_with fail
            rw [Exit.noGoto_normal]
            refine bodyPost_end (results_none rfl _ _ _) rfl ?_
            exact ⟨rfl, _, _, by rw [Xhbi.out]; exact Xhv.out, Xhsb.out, XhKq.out⟩
end Go.Proofs
