/- safe.Faults: all loose variables of a program's rules. -/
import Derived.Test.YtdedcebabimioaaProg
import Derived.Test.YtdedcebabimioaaVars
import Derived.Test.YtdedcebabimioaaSet
import Derived.Test.YtdedcebabimioaaRule
import Derived.Test.YtdedcebabimioaaCopy
namespace Go.Proofs
open Go.RowKit Go.Ink
set_option linter.unusedVariables false
set_option linter.unusedSimpArgs false
attribute [local go_sem] Oper.semAt_some

structure LooseD where
  rule : Int
  at_ : Int
  name : ByteArray
  deriving DecidableEq
def looseCells (x : LooseD) : List Value := [.int .i64 x.rule, .int .i64 x.at_, .string x.name]
def fstep (i : Int) (st : List LooseD × List ByteArray) (x : Int × ByteArray) : List LooseD × List ByteArray :=
  if x.2 ∈ st.2 then st else (st.1 ++ [⟨i, x.1, x.2⟩], st.2 ++ [x.2])
def faultsIn (i : Int) (r : RuleD) (fs : List LooseD) (k : Nat) : List LooseD × List ByteArray := (r.stands.take k).foldl (fstep i) (fs, boundOf r.body)
def faultsTo (rs : List RuleD) : Nat → List LooseD
  | 0 => []
  | i + 1 => (faultsIn i (rs.getD i default) (faultsTo rs i) (rs.getD i default).stands.length).1
def faultsOf (rs : List RuleD) : List LooseD := faultsTo rs rs.length

theorem faultsIn_snoc {i : Int} {r : RuleD} {fs : List LooseD} {k : Nat} {x : Int × ByteArray} (h : r.stands[k]? = some x) : faultsIn i r fs (k + 1) = fstep i (faultsIn i r fs k) x := by
  unfold faultsIn
  rw [List.take_add_one, h, List.foldl_append]
  rfl
theorem faultsIn_len (i : Int) (r : RuleD) (fs : List LooseD) : ∀ k, (faultsIn i r fs k).1.length ≤ fs.length + k := by
  intro k
  induction k with
  | zero => simp [faultsIn]
  | succ k ih =>
    rcases Nat.lt_or_ge k r.stands.length with h | h
    · rw [faultsIn_snoc (List.getElem?_eq_getElem h)]
      unfold fstep
      split
      · omega
      · simp only [List.length_append, List.length_singleton]; omega
    · have : faultsIn i r fs (k + 1) = faultsIn i r fs k := by unfold faultsIn; rw [List.take_of_length_le (by omega), List.take_of_length_le h]
      rw [this]; omega
theorem faultsTo_len (rs : List RuleD) : ∀ i, i ≤ rs.length → (faultsTo rs i).length ≤ ((rs.take i).map fun r => r.stands.length).sum := by
  intro i
  induction i with
  | zero => intro _; simp [faultsTo]
  | succ i ih =>
    intro hi
    have h1 := ih (by omega)
    have h2 := faultsIn_len i (rs.getD i default) (faultsTo rs i) (rs.getD i default).stands.length
    have h3 : rs[i]? = some (rs.getD i default) := by simp [List.getD, List.getElem?_eq_getElem (show i < rs.length by omega)]
    rw [List.take_add_one, h3]
    simp only [faultsTo, Option.toList_some, List.map_append, List.map_cons, List.map_nil, List.sum_append, List.sum_cons, List.sum_nil]
    omega
theorem sum_take_le (rs : List RuleD) (i : Nat) : ((rs.take i).map fun r => r.stands.length).sum ≤ (rs.map fun r => r.stands.length).sum := by
  conv => rhs; rw [← List.take_append_drop i rs]
  rw [List.map_append, List.sum_append]
  omega

theorem bound_flat2 (body : List LitD) : ((body.filter fun L => L.kind == 1).flatMap LitD.uses).length ≤ (body.flatMap LitD.uses).length := by
  induction body with
  | nil => simp
  | cons L ls ih =>
    rw [List.filter_cons]
    split
    · simp only [List.flatMap_cons, List.length_append]; omega
    · simp only [List.flatMap_cons, List.length_append]; omega
theorem el_loose : ElemOf Try.prog 48 52 3 32 := elem_of (z := .agg #[.int .i64 0, .int .i64 0, .string ⟨#[]⟩]) (by kernel_rfl) (by kernel_rfl) rfl (by decide) (by decide)

/-- what the inner loop of Faults leans on -/
structure FaultSt (B Bi Bm M : Nat) (w : World) (Ds : List Nat) (O : Nat → Prop) (i : Int) (fs : List LooseD) (ss : List ByteArray) (W : World) : Prop where
  out : ∃ v, W.heap[w.heap.size + 1]? = some (.cells #[v] 48 (0, 0)) ∧ W.ownsRow (w.heap.size + 1 + 1) 52 3 v fs.length (fs.flatMap looseCells) ∧ (∀ b, v.ownBlock = some b → (O b ∧ B ≤ b) ∨ b < Bi) ∧ MarksAt Ds (fun b => v.ownBlock = some b) W
  ib : W.heap[Bi]? = some (.cells #[.int .i64 i] 3 (0, 0))
  mb : W.heap[Bm]? = some (.cells #[.map (some M)] 67 (0, 0))
  set : SetIn W M ss
  old : Keep (fun k => k < w.heap.size) w W
theorem FaultSt.keep {B Bi Bm M : Nat} {w : World} {Ds : List Nat} {O : Nat → Prop} {i : Int} {fs : List LooseD} {ss : List ByteArray} {W W' : World} {C : Nat → Prop} (h : FaultSt B Bi Bm M w Ds O i fs ss W) (hK : Keep C W W')
    (hB : Bi < B) (hm : Bm < B) (hM : M < B) (hw : w.heap.size + 1 < B) (hD : ∀ D, D ∈ Ds → D < B) (hC : ∀ b, b < B → C b) (hO : ∀ b, O b → C b) : FaultSt B Bi Bm M w Ds O i fs ss W' := by
  obtain ⟨⟨v, h1, h2, h3, h4⟩, h5, h6, h7, h8⟩ := h
  exact ⟨⟨v, hK.heap h1 (hC _ hw), own_kept h2 hK (fun b hb => (h3 b hb).elim (fun h => hO b h.1) (fun h => hC b (by omega))), h3, h4.keep hK (fun D hd => hC D (hD D hd)) (fun _ _ h => h)⟩,
    hK.heap h5 (hC _ hB), hK.heap h6 (hC _ hm), h7.keep hK (hC _ hM), h8.trans (hK.mono fun b _ hb => hC b (by omega))⟩

/-- what the outer loop of Faults has come to in memory -/
def FMem (w : World) (fs : List LooseD) (Ds : List Nat) (W : World) : Prop :=
  (∃ v, W.heap[w.heap.size + 1]? = some (.cells #[v] 48 (0, 0)) ∧ W.ownsRow (w.heap.size + 1 + 1) 52 3 v fs.length (fs.flatMap looseCells) ∧ MarksAt Ds (fun b => v.ownBlock = some b) W) ∧ Keep (fun k => k < w.heap.size) w W
theorem FMem.keep {w : World} {fs : List LooseD} {Ds : List Nat} {W W' : World} (h : FMem w fs Ds W) {m : Nat} (hK : Keep (fun k => k < m) W W') (hm : W.heap.size ≤ m) : FMem w fs Ds W' := by
  obtain ⟨⟨v, h1, h2, h3⟩, h4⟩ := h
  exact ⟨⟨v, hK.heap h1 (by have := heap_lt h1; omega), own_kept h2 hK (fun b hb => by have := (World.ownsRow.lt h2 b hb).2; omega), h3.keep hK (fun D hD => by have := heap_lt (h3 D hD).2; omega) (fun _ _ h => h)⟩,
    h4.trans (hK.mono fun b _ hb => by have := h4.size; omega)⟩

set_option maxRecDepth 100000 in
set_option maxHeartbeats 2000000 in
theorem faults_any (si so sr : Value) (rs : List RuleD) (w : World) (hr : RulesIn w.heap.size w sr rs) (hf : ∀ r, r ∈ rs → RuleFits r) (hN : (rs.map fun r => r.stands.length).sum ≤ 1073741824) (h1 : si.oneCell' = true) (h2 : so.oneCell' = true) :
    Calls Try.prog 13 #[.agg #[si, so, sr]] w fun e w' => ∃ v, e = .returned v ∧ Keep (fun k => k < w.heap.size) w w' ∧
      w'.ownsRow w.heap.size 52 3 v (faultsOf rs).length ((faultsOf rs).flatMap looseCells) := by
  obtain ⟨a, cap, rfl, hlen, hcap, hel⟩ := id hr
  have Xhr := Lib.hid hr
  have Xhel := Lib.hid hel
  have Xhf := Lib.hid hf
  have XhN := Lib.hid hN
  clear hr hel hf hN
  refine calls_of Try.func13 rfl ?_
  simp only [Try.ntmps13, List.size_toArray, List.length_cons, List.length_nil, Nat.reduceAdd, Nat.reduceSub, Array.replicate_succ, Array.replicate_zero, List.push_toArray, List.append_toArray, List.nil_append, List.cons_append]
  gi_wp2
  refine wpIn_loop (fun a' wr => ∃ (u0 u1 u2 u3 u4 u5 u6 u7 u8 u9 u10 u11 u12 u13 u14 u15 u16 u17 u18 u19 u20 u21 u22 u23 u24 u25 u26 u27 u28 u29 u30 u31 u32 u33 u34 u35 u36 u37 u38 u39 : Value) (ds : List Deferred), (∃ (i : Nat) (Ds : List Nat), i ≤ rs.length ∧ u3 = .pointer (some ⟨w.heap.size + 1, 0, none⟩) ∧ u10 = .slice a rs.length cap ∧ u11 = .int .i64 rs.length ∧ u12 = .int .i64 i ∧
      FMem w (faultsTo rs i) Ds wr ∧ ds = marks Ds ∧ Ds.Nodup ∧ (∀ D, D ∈ Ds → w.heap.size + 1 < D)) ∧
      a' = { tmps := #[u0, u1, u2, u3, u4, u5, u6, u7, u8, u9, u10, u11, u12, u13, u14, u15, u16, u17, u18, u19, u20, u21, u22, u23, u24, u25, u26, u27, u28, u29, u30, u31, u32, u33, u34, u35, u36, u37, u38, u39], defers := ds }) (fun a' _ => rs.length - (intOf (a'.tmps.getD 12 (.bool true))).toNat) ?atStart ?round
  case atStart =>
    refine ⟨_, _, _, _, _, _, _, _, _, _, _, _, _, _, _, _, _, _, _, _, _, _, _, _, _, _, _, _, _, _, _, _, _, _, _, _, _, _, _, _, [], ⟨0, [], by omega, rfl, rfl, rfl, rfl, ⟨⟨_, by simp only [alloc_get, World.size_alloc]; simp, World.ownsRow_nil _ _ _ _, by simp [MarksAt]⟩, (Keep.alloc _ _ _).trans (Keep.alloc _ _ _)⟩, rfl, List.nodup_nil, by simp⟩, rfl⟩
  case round =>
    intro a' wr hI
    refine Exists.elim hI ?_; clear hI; intro u0 hI
    refine Exists.elim hI ?_; clear hI; intro u1 hI
    refine Exists.elim hI ?_; clear hI; intro u2 hI
    refine Exists.elim hI ?_; clear hI; intro u3 hI
    refine Exists.elim hI ?_; clear hI; intro u4 hI
    refine Exists.elim hI ?_; clear hI; intro u5 hI
    refine Exists.elim hI ?_; clear hI; intro u6 hI
    refine Exists.elim hI ?_; clear hI; intro u7 hI
    refine Exists.elim hI ?_; clear hI; intro u8 hI
    refine Exists.elim hI ?_; clear hI; intro u9 hI
    refine Exists.elim hI ?_; clear hI; intro u10 hI
    refine Exists.elim hI ?_; clear hI; intro u11 hI
    refine Exists.elim hI ?_; clear hI; intro u12 hI
    refine Exists.elim hI ?_; clear hI; intro u13 hI
    refine Exists.elim hI ?_; clear hI; intro u14 hI
    refine Exists.elim hI ?_; clear hI; intro u15 hI
    refine Exists.elim hI ?_; clear hI; intro u16 hI
    refine Exists.elim hI ?_; clear hI; intro u17 hI
    refine Exists.elim hI ?_; clear hI; intro u18 hI
    refine Exists.elim hI ?_; clear hI; intro u19 hI
    refine Exists.elim hI ?_; clear hI; intro u20 hI
    refine Exists.elim hI ?_; clear hI; intro u21 hI
    refine Exists.elim hI ?_; clear hI; intro u22 hI
    refine Exists.elim hI ?_; clear hI; intro u23 hI
    refine Exists.elim hI ?_; clear hI; intro u24 hI
    refine Exists.elim hI ?_; clear hI; intro u25 hI
    refine Exists.elim hI ?_; clear hI; intro u26 hI
    refine Exists.elim hI ?_; clear hI; intro u27 hI
    refine Exists.elim hI ?_; clear hI; intro u28 hI
    refine Exists.elim hI ?_; clear hI; intro u29 hI
    refine Exists.elim hI ?_; clear hI; intro u30 hI
    refine Exists.elim hI ?_; clear hI; intro u31 hI
    refine Exists.elim hI ?_; clear hI; intro u32 hI
    refine Exists.elim hI ?_; clear hI; intro u33 hI
    refine Exists.elim hI ?_; clear hI; intro u34 hI
    refine Exists.elim hI ?_; clear hI; intro u35 hI
    refine Exists.elim hI ?_; clear hI; intro u36 hI
    refine Exists.elim hI ?_; clear hI; intro u37 hI
    refine Exists.elim hI ?_; clear hI; intro u38 hI
    refine Exists.elim hI ?_; clear hI; intro u39 hI
    obtain ⟨ds, ⟨i, Ds, hi, hu3, hu10, hu11, hu12, hM, hds, hDn, hDs⟩, ha⟩ := hI
    subst ha hds hu3 hu10 hu11 hu12
    by_cases hlt : i < rs.length
    · obtain ⟨r, hrk⟩ : ∃ r, rs[i]? = some r := ⟨_, List.getElem?_eq_getElem hlt⟩
      have hrd : rs.getD i default = r := by simp [List.getD, hrk]
      obtain ⟨b, off, rfl, hb, sh, sb, hcl, hri⟩ := Xhel.out i r hrk
      have hfr := Xhf.out r (List.mem_of_getElem? hrk)
      have hMk := hM.2
      have hws := hMk.size
      have g : ∀ j v, (ruleCells r sh sb)[j]? = some v → wr.cell? ⟨b, off + i * 3 + j, none⟩ = some v := fun j v h => hMk.cell (hcl j v h) hb
      obtain ⟨⟨ah, capH, rfl, hlenh, hcaph, helh⟩, ⟨ab, capB, rfl, hlenb, hcapb, helb⟩⟩ := id hri
      have d0 := g 0 _ rfl
      have d1 := g 1 _ rfl
      have d2 := g 2 _ rfl
      simp only [Nat.add_zero] at d0
      have hbw : b < wr.heap.size := by omega
      have hlb : (boundOf r.body).length ≤ 1073741824 := by
        refine Nat.le_trans (onceL_len _) (Nat.le_trans ?_ hfr)
        exact bound_flat2 r.body
      have hcount : (faultsTo rs i).length + r.stands.length ≤ 1073741824 := by
        have e1 := faultsTo_len rs i (by omega)
        have e2 := sum_take_le rs (i + 1)
        rw [List.take_add_one, hrk] at e2
        simp only [Option.toList_some, List.map_append, List.map_cons, List.map_nil, List.sum_append, List.sum_cons, List.sum_nil] at e2
        have := XhN.out
        omega
      clear g hcl helh helb
      have XhM := Lib.hid hM
      have XhMk := Lib.hid hMk
      have XhDn := Lib.hid hDn
      have XhDs := Lib.hid hDs
      have Xhrk := Lib.hid hrk
      have Xhrd := Lib.hid hrd
      have Xhri := Lib.hid hri
      have Xhfr := Lib.hid hfr
      have Xhlb := Lib.hid hlb
      clear hM hMk hDn hDs hrk hrd hri hfr hlb
      gi_wp2
      refine ⟨trivial, rfl, callsIn_abs (fun W0 => Keep (fun _ => True) wr W0 ∧ W0.heap.size = wr.heap.size + 1 + 1 ∧ W0.heap[wr.heap.size]? = some (.cells #[.int .i64 i] 3 (0, 0)) ∧ W0.heap[wr.heap.size + 1]? = some (.cells (ruleCells r (.slice ah r.head.args.length capH) (.slice ab r.body.length capB)).toArray 27 (0, 0)))
        ⟨(Keep.alloc _ _ _).trans (Keep.alloc _ _ _), by simp, by simp only [alloc_get, World.size_alloc]; simp, by simp only [alloc_get, World.size_alloc]; simp [ruleCells]⟩ ?_⟩
      rintro W0 ⟨k0, s0, n1, n2⟩
      have hri0 := Xhri.out.keep (XhMk.out.trans (k0.mono fun _ _ _ => trivial))
      refine (callsIn_wide.2 (bound_any w.heap.size _ r.body W0 hri0.2 (by omega) Xhfr.out)).mono ?_
      rintro e W1 ⟨v1, rfl, kk1, ho1⟩
      have z1 := kk1.size
      have hst1 := own_strs ho1 Xhlb.out
      have m1 := kk1.heap n1 (by omega)
      have m2 := kk1.heap n2 (by omega)
      have k1 : Keep (fun k => k < wr.heap.size) wr W1 := (k0.mono fun _ _ _ => trivial).trans (kk1.mono fun b _ h => by omega)
      clear d0 d1 d2 kk1 k0 n1 n2
      have Xho1 := Lib.hid ho1
      have Xhst1 := Lib.hid hst1
      have Xm1 := Lib.hid m1
      have Xm2 := Lib.hid m2
      have Xk1 := Lib.hid k1
      have Xhri0 := Lib.hid hri0
      clear ho1 hst1 m1 m2 k1 hri0
      gi_wp2
      refine ⟨trivial, rfl, (callsIn_wide.2 (set_any _ _ _ W1 Xhst1.out (Nat.le_refl _))).mono ?_⟩
      rintro e W2 ⟨rfl, kk2, hS⟩
      have z2 := kk2.size
      have p1 := kk2.heap Xm1.out (by omega)
      have p2 := kk2.heap Xm2.out (by omega)
      have k2 : Keep (fun k => k < wr.heap.size) wr W2 := Xk1.out.trans (kk2.mono fun b _ h => by omega)
      have c0 := cells_of_block p2 0 _ rfl
      have c1 := cells_of_block p2 1 _ rfl
      have c2 := cells_of_block p2 2 _ rfl
      simp only [Nat.zero_add] at c0 c1 c2
      have hSM := hS.lt
      rw [boundOf, onceL_idem] at hS
      have hlt2 : wr.heap.size + 1 < W2.heap.size := by omega
      clear kk2
      have XhS := Lib.hid hS
      have Xp1 := Lib.hid p1
      have Xp2 := Lib.hid p2
      have Xk2 := Lib.hid k2
      clear hS p1 p2 k2
      gi_wp2
      refine ⟨trivial, rfl, (callsIn_wide.2 (stands_any r _ _ _ _ _ _ _)).mono ?_⟩
      rintro e w' ⟨rfl, rfl⟩
      gi_wp2
      refine wpIn_abs (fun Wr => Keep (fun _ => True) W2 Wr ∧ Wr.heap.size = W2.heap.size + 1 + 1 ∧ Wr.heap[W2.heap.size]? = some (.cells #[.map (some W1.heap.size)] 67 (0, 0)) ∧
          Wr.heap[W2.heap.size + 1]? = some (.cells (ruleCells r (.slice ah r.head.args.length capH) (.slice ab r.body.length capB)).toArray 27 (0, 0)))
        ⟨(Keep.alloc _ _ _).trans (Keep.alloc _ _ _), by simp, by simp only [alloc_get, World.size_alloc]; simp, by simp only [alloc_get, World.size_alloc]; simp⟩ ?_
      rintro Wr ⟨kW, sW, q1, q2⟩
      have kR : Keep (fun k => k < wr.heap.size) wr Wr := Xk2.out.trans (kW.mono fun _ _ _ => trivial)
      have hriW := Xhri.out.keep (w' := Wr) (XhMk.out.trans (kR.mono fun b _ h => by omega))
      have hwr1 : w.heap.size + 1 < wr.heap.size := by
        obtain ⟨⟨v, m1, _, _⟩, _⟩ := XhM.out
        exact heap_lt m1
      have hDlt : ∀ D, D ∈ Ds → D < wr.heap.size := fun D hD => by
        obtain ⟨⟨v, _, _, m3⟩, _⟩ := XhM.out
        exact heap_lt (m3 D hD).2
      have hst0 : FaultSt Wr.heap.size wr.heap.size W2.heap.size W1.heap.size w Ds (fun _ => False) i (faultsTo rs i) (boundOf r.body) Wr := by
        have hMW := XhM.out.keep kR (Nat.le_refl _)
        obtain ⟨⟨v, m1, m2, m3⟩, m4⟩ := hMW
        obtain ⟨⟨v', m1', m2', _⟩, _⟩ := XhM.out
        have hvv : v' = v := by
          have h := kR.heap m1' hwr1
          rw [h] at m1
          simpa using m1
        subst hvv
        exact ⟨⟨v', m1, m2, fun b hb => .inr (World.ownsRow.lt m2' b hb).2, m3⟩, kW.heap Xp1.out trivial, q1, XhS.out.keep kW trivial, m4⟩
      clear c0 c1 c2
      refine range_outer (gf := 35) (lb := #[.pointer (some ⟨W2.heap.size + 1, 0, none⟩)]) rfl (enters Try.func35 (by kernel_rfl) rfl)
        (stands1_iter w.heap.size (W2.heap.size + 1) Wr r _ _ hriW.1 hriW.2 (by omega) (by omega)) (fun _ => rfl) (fun _ h => h.elim)
        ⟨q2, Keep.refl _ _⟩ (fun X Y hv hK => standsV_keep hv hK (fun k hk => by omega) (by omega))
        (fun k O X => FaultSt Wr.heap.size wr.heap.size W2.heap.size W1.heap.size w Ds O i (faultsIn i r (faultsTo rs i) k).1 (faultsIn i r (faultsTo rs i) k).2 X)
        (fun c k O X => False) ?hI ?hIx ?h0 ?round ?done ?stop
      case hI =>
        intro k O X Y h hK
        exact h.keep hK (by omega) (by omega) (by omega) (by omega) (fun D hD => by have := hDlt D hD; omega) (fun b hb => .inl ⟨hb, fun h => h⟩) (fun b hb => .inr hb)
      case hIx => intro c k O X Y h; exact h.elim
      case h0 => exact hst0
      case round =>
        intro lr k O X hBl hlX hOl hk hI hV hsz
        obtain ⟨x, hx⟩ : ∃ x, r.stands[k]? = some x := ⟨_, List.getElem?_eq_getElem hk⟩
        have hxd : r.stands.getD k default = x := by simp [List.getD, hx]
        obtain ⟨pos, s⟩ := x
        have hsn := faultsIn_snoc (i := i) (fs := faultsTo rs i) hx
        have hfl := faultsIn_len i r (faultsTo rs i) k
        obtain ⟨fs, hfs⟩ : ∃ fs, (faultsIn i r (faultsTo rs i) k).1 = fs := ⟨_, rfl⟩
        obtain ⟨ss, hss⟩ : ∃ ss, (faultsIn i r (faultsTo rs i) k).2 = ss := ⟨_, rfl⟩
        rw [hfs, hss] at hI
        rw [hfs] at hfl
        simp only [fstep, hfs, hss] at hsn
        have hw2 : w.heap.size + 1 < Wr.heap.size := by omega
        clear hst0 kR hriW q1 q2 kW
        simp only [hxd]
        have XhI := Lib.hid hI
        have Xhx := Lib.hid hx
        have Xhxd := Lib.hid hxd
        have XhV := Lib.hid hV
        have Xhk := Lib.hid hk
        have XhOl := Lib.hid hOl
        have Xhfs := Lib.hid hfs
        have Xhss := Lib.hid hss
        have XhDlt := Lib.hid hDlt
        clear hI hx hxd hV hk hOl hfs hss hDlt
        gi_wp2
        refine ⟨Keep.refl _ _, fun Y hY hYs hYl => ?_⟩
        have hIY := XhI.out.keep hY (by omega) (by omega) (by omega) (by omega) (fun D hD => by have := XhDlt.out D hD; omega) (fun b hb => by omega) (fun b hb e => XhOl.out (e ▸ hb))
        have hVY := standsV_keep XhV.out hY (fun b hb => by omega) (by omega)
        have hYs2 : Y.heap.size = X.heap.size := hYs
        obtain ⟨⟨v, c1, c2, c3, c4⟩, c5, c6, c7, c8⟩ := id hIY
        have f1 := box_cell c1
        have f1f := box_free c1 0
        have f2 := box_cell c5
        have f3 := box_cell c6
        have hlk := run_lookup_set (P := Try.prog) (T := 67) (K := 9) (E := 4) Try.underlying67 Try.underlying9 (fun _ => by kernel_rfl) c7 s
        by_cases hin : s ∈ ss
        · have hin' : decide (s ∈ ss) = true := by simpa using hin
          rw [hin'] at hlk
          rw [if_pos hin] at hsn
          have hf : bodyEnd Wr.heap.size X.heap.size (standsV w.heap.size (W2.heap.size + 1) Wr (ruleCells r (.slice ah r.head.args.length capH) (.slice ab r.body.length capB)).toArray) O Y Y (fun O' => FaultSt Wr.heap.size wr.heap.size W2.heap.size W1.heap.size w Ds O' i (faultsIn i r (faultsTo rs i) (k + 1)).1 (faultsIn i r (faultsTo rs i) (k + 1)).2 Y) :=
            ⟨O, fun _ h => h, fun _ h => .inl h, Keep.refl _ _, hVY, by rw [hsn, Xhfs.out, Xhss.out]; exact hIY⟩
          clear hIY hVY c1 c2 c3 c4 c5 c6 c7 c8 hsn hin hin' hY hYs hYl f1 f1f f2 hfl
          have Xhf := Lib.hid hf
          clear hf
          gi_wp2
          exact Xhf.out
        · have hin' : decide (s ∈ ss) = false := by simpa using hin
          rw [hin'] at hlk
          rw [if_neg hin] at hsn
          obtain ⟨Z1, hr1, hs1, hk1, hz1⟩ := run_update_set (P := Try.prog) (T := 67) (K := 9) (E := 4) Try.underlying67 Try.underlying9 c7 s
          rw [if_neg hin] at hs1
          have hvM : ∀ b, v.ownBlock = some b → b ≠ W1.heap.size := fun b hb => (c3 b hb).elim (fun h => by have := h.2; omega) (fun h => by omega)
          have hvb : ∀ b, v.ownBlock = some b → w.heap.size + 1 + 1 ≤ b ∧ b < Y.heap.size := fun b hb => World.ownsRow.lt c2 b hb
          have e1 := hk1.heap c1 (by omega)
          have e2 : Z1.ownsRow (w.heap.size + 1 + 1) 52 3 v fs.length (fs.flatMap looseCells) := own_kept c2 hk1 hvM
          have e5 := hk1.heap c5 (by omega)
          have f4 := box_cell e1
          have f4f := box_free e1 0
          have f5 := box_cell e5
          obtain ⟨v2, Z2, hr2, ho2, hk2, g2, cap2, hv2, hg2, hl2⟩ := app1 el_loose 48 e2 (looseCells ⟨i, pos, s⟩) rfl (by simp [looseCells, Value.oneCell']) (by have := Xhk.out; omega) (by omega)
          subst hv2
          rw [hz1, hYs2] at hg2
          have hnb : ∀ b, b < w.heap.size + 1 + 1 → some b ≠ v.ownBlock := fun b hb e => by have := (hvb b e.symm).1; omega
          have e4' := hk2.heap e1 (hnb _ (by omega))
          have e4 := box_cell e4'
          have e4f := box_free e4' 0
          have hZs : (Z2.setCell ⟨w.heap.size + 1, 0, none⟩ (.slice (some ⟨g2, 0, none⟩) (fs.length + 1) cap2)).heap.size = Z2.heap.size := by simp [World.setCell]
          have k3 : ∀ u, Keep (fun b => b ≠ w.heap.size + 1) Z2 (Z2.setCell ⟨w.heap.size + 1, 0, none⟩ u) := fun u => Keep.setCell _ _ _ (by simp)
          have kall : Keep (fun b => b ≠ w.heap.size + 1 ∧ b ≠ W1.heap.size ∧ some b ≠ v.ownBlock) Y (Z2.setCell ⟨w.heap.size + 1, 0, none⟩ (.slice (some ⟨g2, 0, none⟩) (fs.length + 1) cap2)) :=
            ((hk1.mono fun b _ h => h.2.1).trans (hk2.mono fun b _ h => h.2.2)).trans ((k3 _).mono fun b _ h => h.1)
          have hnv : ∀ b, wr.heap.size ≤ b → ¬ O b → some b ≠ v.ownBlock := fun b h1 h2 e => (c3 b e.symm).elim (fun h => h2 h.1) (fun h => by omega)
          have hnB : ∀ b, wr.heap.size ≤ b → b < Wr.heap.size → some b ≠ v.ownBlock := fun b h1 h2 e => (c3 b e.symm).elim (fun h => by omega) (fun h => by omega)
          have hg3 : (O g2 ∧ Wr.heap.size ≤ g2) ∨ g2 < wr.heap.size ∨ X.heap.size ≤ g2 := hg2.elim (fun h => (c3 _ h).imp id .inl) (fun h => .inr (.inr h))
          have hf : bodyEnd Wr.heap.size X.heap.size (standsV w.heap.size (W2.heap.size + 1) Wr (ruleCells r (.slice ah r.head.args.length capH) (.slice ab r.body.length capB)).toArray) O Y (Z2.setCell ⟨w.heap.size + 1, 0, none⟩ (.slice (some ⟨g2, 0, none⟩) (fs.length + 1) cap2)) (fun O' => FaultSt Wr.heap.size wr.heap.size W2.heap.size W1.heap.size w Ds O' i (faultsIn i r (faultsTo rs i) (k + 1)).1 (faultsIn i r (faultsTo rs i) (k + 1)).2 (Z2.setCell ⟨w.heap.size + 1, 0, none⟩ (.slice (some ⟨g2, 0, none⟩) (fs.length + 1) cap2))) := by
            refine ⟨fun b => O b ∨ (b = g2 ∧ X.heap.size ≤ b), fun _ h => .inl h, fun b h => h.imp id (fun e => ⟨e.2, by rw [hZs, e.1]; exact hl2⟩), kall.mono fun b _ h => ⟨by omega, by omega, hnv b (by omega) h.2.2⟩,
              standsV_keep hVY kall (fun b hb => ⟨by omega, by omega, hnb b (by omega)⟩) ⟨by omega, by omega, hnB _ (by omega) (by omega)⟩, ?_⟩
            rw [hsn]
            refine ⟨⟨_, set_box _ e4', ?_, fun b hb => ?_, fun D hD => ?_⟩, kall.heap c5 ⟨by omega, by omega, hnB _ (by omega) (by omega)⟩, kall.heap c6 ⟨by omega, by omega, hnB _ (by omega) (by omega)⟩, (hs1.keep hk2 (hnB _ (by omega) (by omega))).keep (k3 _) (by omega), c8.trans (kall.mono fun b _ hb => ⟨by omega, by omega, hnb b (by omega)⟩)⟩
            · have := own_kept ho2 (k3 (.slice (some ⟨g2, 0, none⟩) (fs.length + 1) cap2)) (fun b hb => by simp [Value.ownBlock] at hb; rcases hg3 with h | h | h <;> first | omega | (have h9 := hg2; rcases h9 with h9 | h9 <;> first | (have := (hvb _ h9).1; omega) | omega))
              simpa using this
            · simp only [Value.ownBlock, Option.some.injEq] at hb
              subst hb
              rcases hg3 with h | h | h
              · exact .inl ⟨.inl h.1, h.2⟩
              · exact .inr h
              · exact .inl ⟨.inr ⟨rfl, h⟩, by omega⟩
            · have hDd := XhDlt.out D hD
              have hc4 := c4 D hD
              refine ⟨fun hb => ?_, kall.heap hc4.2 ⟨by have := XhDs.out D hD; omega, by omega, fun e => hc4.1 e.symm⟩⟩
              simp only [Value.ownBlock, Option.some.injEq] at hb
              subst hb
              rcases hg2 with h | h
              · exact hc4.1 h
              · omega
          simp only [looseCells] at hr2
          clear hIY hVY c1 c2 c3 c4 c5 c6 c7 c8 hsn hin hin' hY hYs hYl hs1 hk1 e2 ho2 hk2 hg2 e1 e4' kall k3 hnb hg3 hZs hvM hvb e5 hnv hnB hfl hz1 hYs2
          have Xhr2 := Lib.hid hr2
          have Xhf := Lib.hid hf
          clear hr2 hf
          gi_wp2_with (gi_at_builtin; refine gi_app rfl _ _ _ rfl rfl rfl Xhr2.out ?_)
          exact Xhf.out
      case done =>
        rintro D O Wd hD hOD hWD hsd hI hV
        have hall : (faultsIn i r (faultsTo rs i) r.stands.length).1 = faultsTo rs (i + 1) := by
          simp only [faultsTo, Xhrd.out]
        rw [hall] at hI
        obtain ⟨⟨v, c1, c2, c3, c4⟩, c5, c6, c7, c8⟩ := hI
        have hM2 : FMem w (faultsTo rs (i + 1)) (D :: Ds) Wd := ⟨⟨v, c1, c2, fun E hE => by
          rcases List.mem_cons.1 hE with rfl | hE
          · exact ⟨fun h => (c3 _ h).elim (fun h => hOD h.1) (fun h => by omega), hWD⟩
          · exact c4 E hE⟩, c8⟩
        have hDn : (D :: Ds).Nodup := List.nodup_cons.2 ⟨fun h => by have := hDlt D h; omega, XhDn.out⟩
        have hDs : ∀ E, E ∈ D :: Ds → w.heap.size + 1 < E := fun E hE => by
          rcases List.mem_cons.1 hE with rfl | hE
          · omega
          · exact XhDs.out E hE
        clear hst0 kR hriW q1 q2 kW c1 c2 c3 c4 c5 c6 c7 c8 hall hDlt
        have XhM2 := Lib.hid hM2
        have XhDn := Lib.hid hDn
        have XhDs := Lib.hid hDs
        have XhV := Lib.hid hV
        have XhWD := Lib.hid hWD
        clear hM2 hDn hDs hV hWD
        gi_wp2
        refine ⟨⟨_, _, _, _, _, _, _, _, _, _, _, _, _, _, _, _, _, _, _, _, _, _, _, _, _, _, _, _, _, _, _, _, _, _, _, _, _, _, _, _, _, ⟨i + 1, D :: Ds, by omega, rfl, rfl, rfl, by go_num, XhM2.out, rfl, XhDn.out, XhDs.out⟩, rfl⟩, ?_⟩
        show rs.length - (intOf (.int .i64 ((i : Int) + 1))).toNat < rs.length - (intOf (.int .i64 (i : Int))).toNat
        simp [intOf]
        omega
      case stop => intro D c k O W _ _ _ _ _ h; exact h.elim
    · obtain rfl : i = rs.length := by omega
      obtain ⟨⟨v, m1, m2, m3⟩, m4⟩ := hM
      have d1 := box_cell m1
      clear hlt hi
      have Xm1 := Lib.hid m1
      have Xm2 := Lib.hid m2
      have Xm3 := Lib.hid m3
      have Xm4 := Lib.hid m4
      have XhDn := Lib.hid hDn
      have XhDs := Lib.hid hDs
      clear m1 m2 m3 m4 hDn hDs
      gi_wp2
      refine leaves_marks Ds _ XhDn.out (fun E hE => (Xm3.out E hE).2) (fun w' hK hs => leaves_nil (results_tmp rfl _ _ _) ?_)
      exact ⟨v, rfl, Xm4.out.trans (hK.mono fun b _ h hb => by have := XhDs.out b hb; omega), (own_kept Xm2.out hK (fun b hb hd => (Xm3.out b hd).1 hb)).mono (by omega)⟩
end Go.Proofs
