/- safe.Way: in which order a rule's literals can be looked at. -/
import Derived.Test.YtdedcebabimioaaProg
import Derived.Test.YtdedcebabimioaaReady
import Derived.Test.YtdedcebabimioaaStands
import Derived.Test.YtdedcebabimioaaCopy
import Derived.Laws.MakeOwn
import Derived.Scope
namespace Go.Proofs
open Go.RowKit Go.Ink
set_option linter.unusedVariables false
set_option linter.unusedSimpArgs false
attribute [local go_sem] Oper.semAt_some

/-- a scope whose label nothing jumps to, at the wide fence -/
theorem wide_scope {P : Program} {n : Nat} {c : Code} {Q : Exit → Act → World → Prop} {a : Act} {w : World} (h : c.wpIn Fence.wide n P (Exit.noGoto Q) a w) : (Code.scope c).wpIn Fence.wide n P Q a w :=
  wpIn_wide.2 (wp_scope_straight (wpIn_wide.1 h))

theorem info_bool : (Try.prog.info? 4).map (fun i => (i.zero, i.size, i.bytes)) = some (some (.bool false), 1, 1) := by kernel_rfl

/-- what the outer loop of Way has come to in memory -/
structure WayMem (r : RuleD) (rc : Array Value) (w : World) (taken : List Bool) (s : List ByteArray) (out : List Nat) (v6 : Value) (W : World) : Prop where
  rbox : W.heap[w.heap.size]? = some (.cells rc 27 (0, 0))
  mbox : W.heap[w.heap.size + 1 + 1]? = some (.cells #[.map (some (w.heap.size + 1))] 67 (0, 0))
  set : SetIn W (w.heap.size + 1) s
  tak : W.heap[w.heap.size + 1 + 1 + 1]? = some (.cells (taken.map Value.bool).toArray 4 (0, 0))
  own : W.ownsRow (w.heap.size + 1 + 1 + 1 + 1) 3 1 v6 out.length (out.map fun i : Nat => Value.int .i64 (i : Int))
  old : Keep (fun k => k < w.heap.size) w W

theorem WayMem.keep {r : RuleD} {rc : Array Value} {w : World} {taken : List Bool} {s : List ByteArray} {out : List Nat} {v6 : Value} {W W' : World} {C : Nat → Prop} (h : WayMem r rc w taken s out v6 W) (hK : Keep C W W')
    (h0 : ∀ b, b < w.heap.size + 1 + 1 + 1 + 1 → C b) (h6 : ∀ b, v6.ownBlock = some b → C b) : WayMem r rc w taken s out v6 W' :=
  ⟨hK.heap h.rbox (h0 _ (by omega)), hK.heap h.mbox (h0 _ (by omega)), h.set.keep hK (h0 _ (by omega)), hK.heap h.tak (h0 _ (by omega)), own_kept h.own hK h6, h.old.trans (hK.mono fun b _ hb => h0 _ (by omega))⟩

theorem range_any (p : Nat → Bool) (i : Nat) : (List.range (i + 1)).any p = ((List.range i).any p || p i) := by simp [List.range_succ]
theorem range_find (p : Nat → Bool) (i : Nat) (h : (List.range i).find? p = none) : (List.range (i + 1)).find? p = if p i = true then some i else none := by
  rw [List.range_succ, List.find?_append, h]
  by_cases hp : p i = true
  · rw [if_pos hp]; simp [hp]
  · rw [if_neg hp]; simp [hp]
theorem range_first (p : Nat → Bool) (i n : Nat) (h : (List.range i).find? p = none) (hp : p i = true) (hi : i < n) : (List.range n).find? p = some i := by
  have e : n = (i + 1) + (n - (i + 1)) := by omega
  rw [e, List.range_add, List.find?_append, range_find p i h, if_pos hp]
  rfl

theorem made_eq (n : Nat) : madeCells #[.bool false] n = ((List.replicate n false).map Value.bool).toArray := by
  apply Array.ext
  · simp [madeCells]
  · intro i h1 h2
    simp [madeCells, Nat.mod_one]

theorem own_base {w : World} {base base' : Nat} {e : TypeId} {sz : Nat} {v : Value} {n : Nat} {xs : List Value} (h : w.ownsRow base e sz v n xs) (hb : base' ≤ base) : w.ownsRow base' e sz v n xs := by
  refine ⟨h.1, ?_⟩
  rcases h.2 with hn | ⟨g, cap, cur, hv, hbg, rest⟩
  · exact .inl hn
  · exact .inr ⟨g, cap, cur, hv, Nat.le_trans hb hbg, rest⟩
theorem el_int : ElemOf Try.prog 59 3 1 8 := elem_of (z := .int .i64 0) (by kernel_rfl) (by kernel_rfl) rfl (by decide) (by decide)
/-- the set behind k of a literal's terms -/
def bindT (L : LitD) (s : List ByteArray) (k : Nat) : List ByteArray := if L.kind == 1 then addL s (((L.terms.take k).filter TermD.var).map TermD.text) else s
theorem addL_snoc (s xs : List ByteArray) (x : ByteArray) : addL s (xs ++ [x]) = if x ∈ addL s xs then addL s xs else addL s xs ++ [x] := by
  unfold addL
  rw [List.foldl_append]
  rfl
theorem bindT_all (L : LitD) (s : List ByteArray) : bindT L s L.terms.length = bindAt s L := by
  unfold bindT bindAt
  rw [List.take_length]
  rfl
theorem bindT_skip {L : LitD} {s : List ByteArray} {k : Nat} {t : TermD} (ht : L.terms[k]? = some t) (h : t.var = false ∨ (L.kind == 1) = false) : bindT L s (k + 1) = bindT L s k := by
  unfold bindT
  rcases h with h | h
  · rw [List.take_add_one, ht]
    simp [h]
  · simp [h]
theorem bindT_take {L : LitD} {s : List ByteArray} {k : Nat} {t : TermD} (ht : L.terms[k]? = some t) (h : t.var = true) (h1 : (L.kind == 1) = true) : bindT L s (k + 1) = if t.text ∈ bindT L s k then bindT L s k else bindT L s k ++ [t.text] := by
  unfold bindT
  rw [if_pos h1, if_pos h1, List.take_add_one, ht, ← addL_snoc]
  simp [h]

/-- how many are not taken yet, read out of memory -/
def takN (B : Nat) (W : World) : Nat := match W.heap[B]? with
  | some (.cells cs _ _) => cs.toList.countP fun v => match v with | .bool false => true | _ => false
  | _ => 0
theorem takN_eq {B t : Nat} {taken : List Bool} {fr : Nat × Nat} {W : World} (h : W.heap[B]? = some (.cells (taken.map Value.bool).toArray t fr)) : takN B W = taken.count false := by
  unfold takN
  rw [h]
  simp only
  induction taken with
  | nil => rfl
  | cons a l ih =>
    have ih' : (l.map Value.bool).countP (fun v => match v with | .bool false => true | _ => false) = l.count false := by
      clear h ih
      induction l with
      | nil => rfl
      | cons b l ih => cases b <;> simp [List.countP_cons, ih]
    cases a <;> simp [List.countP_cons, ih']

set_option maxRecDepth 100000 in
set_option maxHeartbeats 2000000 in
theorem way_any (r : RuleD) (sh sb : Value) (w : World) (hr : RuleIn w.heap.size w sh sb r) (hlen : r.body.length ≤ 268435456) :
    Calls Try.prog 19 #[.agg #[.string r.head.pred, sh, sb]] w fun e w' => ∃ v, e = .returned (.tuple #[v, .bool (wayD r.body).2]) ∧ Keep (fun k => k < w.heap.size) w w' ∧
      w'.ownsRow w.heap.size 3 1 v (wayD r.body).1.length ((wayD r.body).1.map fun i : Nat => Value.int .i64 (i : Int)) := by
  obtain ⟨⟨ah, capH, rfl, hlenh, hcaph, helh⟩, ⟨ab, capB, rfl, hlenb, hcapb, helb⟩⟩ := id hr
  obtain ⟨i0, hi, hz0, hz1, hz2⟩ := info_parts info_bool
  have hmm := @run_makeMap Try.prog
  have hmk : ∀ u : World, (Instr.makeSlice 28 (.int .i64 (r.body.length : Int)) (.int .i64 (r.body.length : Int))).run Try.prog u =
      .ok (.slice (some ⟨u.heap.size, 0, none⟩) r.body.length r.body.length) (u.alloc (.cells (madeCells #[.bool false] r.body.length) 4)) := fun u => by
    have h := run_make (P := Try.prog) u 28 4 i0 (.bool false) Try.underlying28 hi hz0 .i64 .i64 (r.body.length : Int) (r.body.length : Int) (by omega) (Int.le_refl _) (by rw [hz2]; omega) (by omega)
    simpa [hz1, Value.cells] using h
  have Xhr := Lib.hid hr
  have Xhelh := Lib.hid helh
  have Xhelb := Lib.hid helb
  have Xhmk := Lib.hid hmk
  clear hr helh helb hmk
  clear hi hz0 hz1 hz2
  refine calls_of Try.func19 rfl ?_
  simp only [Try.ntmps19, List.size_toArray, List.length_cons, List.length_nil, Nat.reduceAdd, Nat.reduceSub, Array.replicate_succ, Array.replicate_zero, List.push_toArray, List.append_toArray, List.nil_append, List.cons_append]
  gi_wp2
  refine wide_scope ?_
  have hmk := Xhmk.out
  gi_wp2
  refine wpIn_label ?_
  gi_wp2
  refine wpIn_loop (fun a' wr => ∃ (u0 u1 u2 u3 u4 u5 u6 u7 u8 u9 u10 u11 u12 u13 u14 u15 u16 u17 u18 u19 u20 u21 u22 u23 u24 u25 u26 u27 u28 u29 u30 u31 u32 u33 u34 u35 u36 u37 u38 u39 u40 u41 u42 u43 u44 u45 u46 u47 u48 u49 u50 u51 u52 u53 u54 u55 u56 u57 u58 u59 u60 u61 u62 u63 u64 : Value) (ds : List Deferred), (∃ (n : Nat) (taken : List Bool) (s : List ByteArray) (out : List Nat) (Ds : List Nat), wayGo r.body n taken s out = wayD r.body ∧ taken.count false < n ∧ taken.length = r.body.length ∧ out.length + taken.count false = r.body.length ∧
      u1 = .pointer (some ⟨w.heap.size, 0, none⟩) ∧ u4 = .pointer (some ⟨w.heap.size + 1 + 1, 0, none⟩) ∧ u5 = .slice (some ⟨w.heap.size + 1 + 1 + 1, 0, none⟩) r.body.length r.body.length ∧
      WayMem r (ruleCells r (.slice ah r.head.args.length capH) (.slice ab r.body.length capB)).toArray w taken s out u6 wr ∧ ds = marks Ds ∧ Ds.Nodup ∧ (∀ D, D ∈ Ds → w.heap.size + 1 + 1 + 1 < D) ∧ MarksAt Ds (fun b => u6.ownBlock = some b) wr) ∧
      a' = { tmps := #[u0, u1, u2, u3, u4, u5, u6, u7, u8, u9, u10, u11, u12, u13, u14, u15, u16, u17, u18, u19, u20, u21, u22, u23, u24, u25, u26, u27, u28, u29, u30, u31, u32, u33, u34, u35, u36, u37, u38, u39, u40, u41, u42, u43, u44, u45, u46, u47, u48, u49, u50, u51, u52, u53, u54, u55, u56, u57, u58, u59, u60, u61, u62, u63, u64], defers := ds }) (fun _ wr => takN (w.heap.size + 1 + 1 + 1) wr) ?atStart ?round
  case atStart =>
    refine ⟨_, _, _, _, _, _, _, _, _, _, _, _, _, _, _, _, _, _, _, _, _, _, _, _, _, _, _, _, _, _, _, _, _, _, _, _, _, _, _, _, _, _, _, _, _, _, _, _, _, _, _, _, _, _, _, _, _, _, _, _, _, _, _, _, _, [], ⟨r.body.length + 1, List.replicate r.body.length false, [], [], [], rfl, by simp [List.count_replicate], by simp, by simp [List.count_replicate], rfl, rfl, rfl, ?_, rfl, List.nodup_nil, by simp, by simp [MarksAt]⟩, rfl⟩
    rw [made_eq]
    exact { rbox := old_block (old_block (old_block (new_block _ _) _) _) _, mbox := by simp only [alloc_get, World.size_alloc]; simp, set := ⟨#[], 0, by simp only [alloc_get, World.size_alloc]; simp, rfl⟩, tak := by simp only [alloc_get, World.size_alloc]; simp, own := World.ownsRow_nil _ _ _ _, old := (((Keep.alloc _ _ _).trans (Keep.alloc _ _ _)).trans (Keep.alloc _ _ _)).trans (Keep.alloc _ _ _) }
  case round =>
    intro a' wr hI
    refine Exists.elim hI ?_; clear hI; intro u0 hI
    refine Exists.elim hI ?_; clear hI; intro u1 hI
    refine Exists.elim hI ?_; clear hI; intro u2 hI
    refine Exists.elim hI ?_; clear hI; intro u3 hI
    refine Exists.elim hI ?_; clear hI; intro u4 hI
    refine Exists.elim hI ?_; clear hI; intro u5 hI
    refine Exists.elim hI ?_; clear hI; intro u6 hI
    refine Exists.elim hI ?_; clear hI; intro u7 hI
    refine Exists.elim hI ?_; clear hI; intro u8 hI
    refine Exists.elim hI ?_; clear hI; intro u9 hI
    refine Exists.elim hI ?_; clear hI; intro u10 hI
    refine Exists.elim hI ?_; clear hI; intro u11 hI
    refine Exists.elim hI ?_; clear hI; intro u12 hI
    refine Exists.elim hI ?_; clear hI; intro u13 hI
    refine Exists.elim hI ?_; clear hI; intro u14 hI
    refine Exists.elim hI ?_; clear hI; intro u15 hI
    refine Exists.elim hI ?_; clear hI; intro u16 hI
    refine Exists.elim hI ?_; clear hI; intro u17 hI
    refine Exists.elim hI ?_; clear hI; intro u18 hI
    refine Exists.elim hI ?_; clear hI; intro u19 hI
    refine Exists.elim hI ?_; clear hI; intro u20 hI
    refine Exists.elim hI ?_; clear hI; intro u21 hI
    refine Exists.elim hI ?_; clear hI; intro u22 hI
    refine Exists.elim hI ?_; clear hI; intro u23 hI
    refine Exists.elim hI ?_; clear hI; intro u24 hI
    refine Exists.elim hI ?_; clear hI; intro u25 hI
    refine Exists.elim hI ?_; clear hI; intro u26 hI
    refine Exists.elim hI ?_; clear hI; intro u27 hI
    refine Exists.elim hI ?_; clear hI; intro u28 hI
    refine Exists.elim hI ?_; clear hI; intro u29 hI
    refine Exists.elim hI ?_; clear hI; intro u30 hI
    refine Exists.elim hI ?_; clear hI; intro u31 hI
    refine Exists.elim hI ?_; clear hI; intro u32 hI
    refine Exists.elim hI ?_; clear hI; intro u33 hI
    refine Exists.elim hI ?_; clear hI; intro u34 hI
    refine Exists.elim hI ?_; clear hI; intro u35 hI
    refine Exists.elim hI ?_; clear hI; intro u36 hI
    refine Exists.elim hI ?_; clear hI; intro u37 hI
    refine Exists.elim hI ?_; clear hI; intro u38 hI
    refine Exists.elim hI ?_; clear hI; intro u39 hI
    refine Exists.elim hI ?_; clear hI; intro u40 hI
    refine Exists.elim hI ?_; clear hI; intro u41 hI
    refine Exists.elim hI ?_; clear hI; intro u42 hI
    refine Exists.elim hI ?_; clear hI; intro u43 hI
    refine Exists.elim hI ?_; clear hI; intro u44 hI
    refine Exists.elim hI ?_; clear hI; intro u45 hI
    refine Exists.elim hI ?_; clear hI; intro u46 hI
    refine Exists.elim hI ?_; clear hI; intro u47 hI
    refine Exists.elim hI ?_; clear hI; intro u48 hI
    refine Exists.elim hI ?_; clear hI; intro u49 hI
    refine Exists.elim hI ?_; clear hI; intro u50 hI
    refine Exists.elim hI ?_; clear hI; intro u51 hI
    refine Exists.elim hI ?_; clear hI; intro u52 hI
    refine Exists.elim hI ?_; clear hI; intro u53 hI
    refine Exists.elim hI ?_; clear hI; intro u54 hI
    refine Exists.elim hI ?_; clear hI; intro u55 hI
    refine Exists.elim hI ?_; clear hI; intro u56 hI
    refine Exists.elim hI ?_; clear hI; intro u57 hI
    refine Exists.elim hI ?_; clear hI; intro u58 hI
    refine Exists.elim hI ?_; clear hI; intro u59 hI
    refine Exists.elim hI ?_; clear hI; intro u60 hI
    refine Exists.elim hI ?_; clear hI; intro u61 hI
    refine Exists.elim hI ?_; clear hI; intro u62 hI
    refine Exists.elim hI ?_; clear hI; intro u63 hI
    refine Exists.elim hI ?_; clear hI; intro u64 hI
    obtain ⟨ds, ⟨n, taken, s, out, Ds, hgo, hcn, htl, hol, hu1, hu4, hu5, hst, hds, hDn, hDs, hDm⟩, ha⟩ := hI
    subst ha hds hu1 hu4 hu5
    have hDlt : ∀ D, D ∈ Ds → D < wr.heap.size := fun D hD => heap_lt (hDm D hD).2
    have b2 := cells_of_block hst.rbox 2 _ rfl
    have hT0 := takN_eq hst.tak
    simp only [Nat.zero_add] at b2
    have XhT0 := Lib.hid hT0
    have XhDn := Lib.hid hDn
    have XhDs := Lib.hid hDs
    have XhDm := Lib.hid hDm
    have XhDlt := Lib.hid hDlt
    have Xhst := Lib.hid hst
    have Xhgo := Lib.hid hgo
    have Xhcn := Lib.hid hcn
    have Xhtl := Lib.hid htl
    have Xhol := Lib.hid hol
    clear hT0 hDn hDs hDm hDlt hst hgo hcn htl hol
    clear hmk hmm
    gi_wp2
    gi_loopw [6, 7, 19] (fun v6 lf ix W => ∃ i : Nat, i ≤ r.body.length ∧ ix = .int .i64 i ∧ lf = .bool ((List.range i).any (wants r.body taken)) ∧
       (List.range i).find? (fun i => wants r.body taken i && readyD (r.body.getD i default) s) = none ∧
       WayMem r (ruleCells r (.slice ah r.head.args.length capH) (.slice ab r.body.length capB)).toArray w taken s out v6 W ∧ MarksAt Ds (fun b => v6.ownBlock = some b) W ∧ wr.heap.size ≤ W.heap.size) (fun _ _ i _ => r.body.length - (intOf i).toNat)
    case atStart => exact ⟨0, by omega, rfl, rfl, rfl, Xhst.out, XhDm.out, Nat.le_refl _⟩
    case round =>
      obtain ⟨i, hi, rfl, rfl, hno, hst, hDm, hsz⟩ := hrel
      by_cases hlt : i < r.body.length
      · obtain ⟨L, hL⟩ : ∃ L, r.body[i]? = some L := ⟨_, List.getElem?_eq_getElem hlt⟩
        have hLd : r.body.getD i default = L := by simp [List.getD, hL]
        obtain ⟨b, off, rfl, hb, sa, hcl, hts⟩ := Xhelb.out i L hL
        have g : ∀ j v, (litCells L sa)[j]? = some v → wr.cell? ⟨b, off + i * 7 + j, none⟩ = some v := fun j v h => hst.old.cell (hcl j v h) hb
        obtain ⟨aa, caps, rfl, hlens, hcaps, hels⟩ := id hts
        have d0 := g 0 _ rfl
        have d1 := g 1 _ rfl
        have d2 := g 2 _ rfl
        have d3 := g 3 _ rfl
        have d4 := g 4 _ rfl
        have d5 := g 5 _ rfl
        have d6 := g 6 _ rfl
        simp only [Nat.add_zero] at d0
        obtain ⟨tk, htk⟩ : ∃ tk, taken[i]? = some tk := ⟨_, List.getElem?_eq_getElem (by rw [Xhtl.out]; exact hlt)⟩
        have e0 := cells_of_block hst.tak i (.bool tk) (by simp [htk])
        simp only [Nat.zero_add] at e0
        have hwant : wants r.body taken i = (!tk && litKind L) := by simp only [wants, hLd]; simp [List.getD, htk]
        have hbW : b < wr.heap.size := Nat.lt_of_lt_of_le hb hst.old.size
        have hTW : w.heap.size + 1 + 1 + 1 < wr.heap.size := heap_lt hst.tak
        have hA := Keep.alloc (fun _ => True) wr (.cells (litCells L (.slice aa L.atom.args.length caps)).toArray 37)
        have hst2 := hst.keep hA (fun _ _ => trivial) (fun _ _ => trivial)
        have hDm2 := hDm.keep (O' := fun b => u6.ownBlock = some b) hA (fun _ _ => trivial) (fun _ _ h => h)
        have hm := box_cell hst.mbox
        have hMW : w.heap.size + 1 + 1 < wr.heap.size := by omega
        by_cases hw : wants r.body taken i = true
        · have hk13 : tk = false ∧ ¬ L.kind < 1 ∧ ¬ 3 < L.kind := by
            rw [hwant] at hw
            simp [litKind] at hw
            exact ⟨hw.1, by omega, by omega⟩
          obtain ⟨rfl, h1, h3⟩ := hk13
          have htg : taken.getD i true = false := by simp [List.getD, htk]
          have han2 : (List.range (i + 1)).any (wants r.body taken) = true := by rw [range_any]; simp [hw]
          have hno2 : readyD L s = false → (List.range (i + 1)).find? (fun i => wants r.body taken i && readyD (r.body.getD i default) s) = none := fun hrd => by
            rw [range_find _ i hno, if_neg (by rw [hLd, hrd]; simp)]
          have hpk : readyD L s = true → pickAt r.body taken s = some i := fun hrd => range_first _ i _ hno (by rw [hLd, hrd, hw]; rfl) hlt
          have hown : ∀ b, u6.ownBlock = some b → w.heap.size + 1 + 1 + 1 + 1 ≤ b ∧ b < wr.heap.size := fun b hb => World.ownsRow.lt hst.own b hb
          clear g hcl hels hA hwant hw hno htk
          have Xhst := Lib.hid hst
          have Xhst2 := Lib.hid hst2
          have XhDm := Lib.hid hDm
          have XhDm2 := Lib.hid hDm2
          have Xhno2 := Lib.hid hno2
          have Xhan2 := Lib.hid han2
          have Xhpk := Lib.hid hpk
          have Xhown := Lib.hid hown
          have Xhts := Lib.hid hts
          have Xhtg := Lib.hid htg
          have XhLd := Lib.hid hLd
          have XhL := Lib.hid hL
          clear hst hst2 hDm hDm2 hno2 han2 hpk hown hts htg hLd hL
          gi_wp2
          refine ⟨trivial, rfl, callsIn_abs (fun W1 => Keep (fun _ => True) wr W1 ∧ W1.heap.size = wr.heap.size + 1 ∧ W1.heap[wr.heap.size]? = some (.cells (litCells L (.slice aa L.atom.args.length caps)).toArray 37 (0, 0)) ∧
             WayMem r (ruleCells r (.slice ah r.head.args.length capH) (.slice (some ⟨b, off, none⟩) r.body.length capB)).toArray w taken s out u6 W1 ∧ MarksAt Ds (fun b => u6.ownBlock = some b) W1) ⟨Keep.alloc _ _ _, by simp, new_block _ _, Xhst2.out, XhDm2.out⟩ ?_⟩
          rintro W1 ⟨k1, s1, n1, hst3, hDm3⟩
          have htW1 : TermsIn W1.heap.size W1 (.slice aa L.atom.args.length caps) L.atom.args := terms_wider (terms_keep Xhts.out hst3.old) (by omega)
          refine (callsIn_wide.2 (ready_any L _ _ s W1 htW1 hst3.set)).mono ?_
          rintro e W2 ⟨rfl, k2⟩
          have s2 := k2.size
          have hst4 := hst3.keep k2 (fun b hb => by omega) (fun b hb => by have := Xhown.out b hb; omega)
          have hDm4 := hDm3.keep (O' := fun b => u6.ownBlock = some b) k2 (fun D hD => heap_lt (hDm3 D hD).2) (fun _ _ h => h)
          have n2 := k2.heap n1 (by omega)
          have e2 := cells_of_block hst4.tak i (.bool false) (by
            have h := Xhtg.out
            have hlt' : i < taken.length := by rw [Xhtl.out]; exact hlt
            simp [List.getD, List.getElem?_eq_getElem hlt'] at h ⊢
            exact h)
          have e2f := box_free hst4.tak i
          simp only [Nat.zero_add] at e2
          clear htW1 hm e0 d0 d1 d2 d3 d4 d5 d6 n1 k1
          cases hrd : readyD L s with
          | false =>
            have hno3 := Xhno2.out hrd
            have Xhst3 := Lib.hid hst3
            have XhDm3 := Lib.hid hDm3
            have Xhst4 := Lib.hid hst4
            have XhDm4 := Lib.hid hDm4
            have Xhno3 := Lib.hid hno3
            have Xn2 := Lib.hid n2
            have Xe2 := Lib.hid e2
            have Xe2f := Lib.hid e2f
            have Xk2 := Lib.hid k2
            clear hst3 hDm3 hst4 hDm4 hno3 n2 e2 e2f k2
            gi_wp2
            exact ⟨⟨i + 1, by omega, by go_num, by rw [Xhan2.out], Xhno3.out, Xhst4.out, XhDm4.out, by omega⟩, by simp [intOf]; omega⟩
          | true =>
            have hpk2 := Xhpk.out hrd
            have hT : Keep (fun b => b ≠ w.heap.size + 1 + 1 + 1) W2 (W2.setCell ⟨w.heap.size + 1 + 1 + 1, i, none⟩ (.bool true)) := Keep.setCell _ _ _ (by simp)
            have hst5 : WayMem r (ruleCells r (.slice ah r.head.args.length capH) (.slice (some ⟨b, off, none⟩) r.body.length capB)).toArray w (taken.set i true) s out u6 (W2.setCell ⟨w.heap.size + 1 + 1 + 1, i, none⟩ (.bool true)) :=
              ⟨hT.heap hst4.rbox (by omega), hT.heap hst4.mbox (by omega), hst4.set.keep hT (by omega), by
                have := set_at i (.bool true) hst4.tak
                simpa [List.map_set] using this, own_kept hst4.own hT (fun b hb => by have := Xhown.out b hb; omega), hst4.old.trans (hT.mono fun b _ hb => by omega)⟩
            have hz : (W2.setCell ⟨w.heap.size + 1 + 1 + 1, i, none⟩ (.bool true)).heap.size = W2.heap.size := by simp [World.setCell]
            have hDm5 := hDm4.keep (O' := fun b => u6.ownBlock = some b) hT (fun D hD => by have := XhDs.out D hD; omega) (fun _ _ h => h)
            have n3 := hT.heap n2 (by omega)
            have hol2 : out.length ≤ r.body.length := by have := Xhol.out; omega
            obtain ⟨v', W4, hr4, ho4, k4, g, cap, hv', hg, hg4⟩ := app1 el_int 59 hst5.own [.int .i64 (i : Int)] rfl (by simp [Value.oneCell']) (by omega) (by rw [hz]; omega)
            rw [hz] at hr4 hg
            have s4 := k4.size
            rw [hz] at s4
            have hst6 : WayMem r (ruleCells r (.slice ah r.head.args.length capH) (.slice (some ⟨b, off, none⟩) r.body.length capB)).toArray w (taken.set i true) s (out ++ [i]) v' W4 :=
              ⟨k4.heap hst5.rbox (own_not hst5.own (by omega)), k4.heap hst5.mbox (own_not hst5.own (by omega)), hst5.set.keep k4 (own_not hst5.own (by omega)), k4.heap hst5.tak (own_not hst5.own (by omega)), by simpa using ho4,
                hst5.old.trans (k4.mono fun b _ hb => own_not hst5.own (by omega))⟩
            have hv6 : ∀ b, v'.ownBlock = some b → w.heap.size + 1 + 1 + 1 + 1 ≤ b ∧ b < W4.heap.size := fun b hb => World.ownsRow.lt ho4 b hb
            have hDm6 : MarksAt Ds (fun b => v'.ownBlock = some b) W4 := fun D hD => by
              have h5 := hDm5 D hD
              refine ⟨fun h => ?_, k4.heap h5.2 (fun h => h5.1 h.symm)⟩
              rw [hv'] at h
              have hDg : D = g := by simpa [Value.ownBlock] using h.symm
              subst hDg
              rcases hg with hg | hg
              · exact h5.1 hg
              · have := heap_lt h5.2; omega
            have n4 := k4.heap n3 (fun h => by have := Xhown.out _ h.symm; omega)
            have hs1 : wr.heap.size < W4.heap.size := by omega
            have l0 := cells_of_block n4 0 _ rfl
            have l1 := cells_of_block n4 1 _ rfl
            have l2 := cells_of_block n4 2 _ rfl
            have l3 := cells_of_block n4 3 _ rfl
            have l4 := cells_of_block n4 4 _ rfl
            have l5 := cells_of_block n4 5 _ rfl
            have l6 := cells_of_block n4 6 _ rfl
            simp only [Nat.zero_add] at l0 l1 l2 l3 l4 l5 l6
            clear hv' hg hg4 hDm5 n3 hz hst5 hT ho4 k4
            have Xhst3 := Lib.hid hst3
            have XhDm3 := Lib.hid hDm3
            have Xhst4 := Lib.hid hst4
            have XhDm4 := Lib.hid hDm4
            have Xn2 := Lib.hid n2
            have Xk2 := Lib.hid k2
            have Xhpk2 := Lib.hid hpk2
            have Xhr4 := Lib.hid hr4
            have Xhst6 := Lib.hid hst6
            have Xhv6 := Lib.hid hv6
            have XhDm6 := Lib.hid hDm6
            have Xn4 := Lib.hid n4
            clear hst3 hDm3 hst4 hDm4 n2 k2 hpk2 hr4 hst6 hv6 hDm6 n4
            gi_wp2_with (gi_at_builtin; refine gi_app rfl _ _ _ rfl rfl rfl Xhr4.out ?_)
            refine ⟨trivial, rfl, (callsIn_wide.2 (terms_any L _ _)).mono ?_⟩
            rintro e w' ⟨rfl, rfl⟩
            gi_wp2
            refine wpIn_abs (fun Wr => Keep (fun _ => True) W4 Wr ∧ Wr.heap.size = W4.heap.size + 1 ∧ Wr.heap[W4.heap.size]? = some (.cells (litCells L (.slice aa L.atom.args.length caps)).toArray 37 (0, 0)))
              ⟨Keep.alloc _ _ _, by simp, new_block _ _⟩ ?_
            rintro Wr ⟨kW, sW, nW⟩
            have hst7 := Xhst6.out.keep kW (fun _ _ => trivial) (fun _ _ => trivial)
            have hDm7 := XhDm6.out.keep (O' := fun b => v'.ownBlock = some b) kW (fun _ _ => trivial) (fun _ _ h => h)
            have n7 := kW.heap Xn4.out trivial
            have htWr : TermsIn w.heap.size Wr (.slice aa L.atom.args.length caps) L.atom.args := terms_keep Xhts.out hst7.old
            clear l0 l1 l2 l3 l4 l5 l6 e2 e2f
            refine range_outer (gf := 41) (lb := #[.pointer (some ⟨W4.heap.size, 0, none⟩)]) rfl (enters Try.func41 (by kernel_rfl) rfl)
              (terms1_iter w.heap.size W4.heap.size Wr L _ htWr (by omega)) (fun _ => rfl) (fun _ h => h.elim)
              ⟨nW, Keep.refl _ _⟩ (fun X Y hv hK => ⟨hK.heap hv.1 (by omega), hv.2.trans (hK.mono fun b _ hb => by omega)⟩)
              (fun k O X => WayMem r (ruleCells r (.slice ah r.head.args.length capH) (.slice (some ⟨b, off, none⟩) r.body.length capB)).toArray w (taken.set i true) (bindT L s k) (out ++ [i]) v' X ∧ MarksAt Ds (fun b => v'.ownBlock = some b) X ∧ X.heap[wr.heap.size]? = some (.cells (litCells L (.slice aa L.atom.args.length caps)).toArray 37 (0, 0)))
              (fun _ _ _ _ => False) ?hI ?hIx ?h0 ?round ?done ?stop
            case hI =>
              rintro k O X Y ⟨h, h', h''⟩ hK
              exact ⟨h.keep hK (fun b hb => .inl ⟨by omega, fun h => h⟩) (fun b hb => .inl ⟨by have := Xhv6.out b hb; omega, fun h => h⟩), h'.keep hK (fun D hD => .inl ⟨by have := heap_lt (XhDm6.out D hD).2; omega, fun h => h⟩) (fun _ _ h => h), hK.heap h'' (.inl ⟨by omega, fun h => h⟩)⟩
            case hIx => exact fun _ _ _ _ _ h => h.elim
            case h0 =>
              refine ⟨?_, hDm7, n7⟩
              have h0 : bindT L s 0 = s := by unfold bindT; split <;> rfl
              rw [h0]
              exact hst7
            case round =>
              intro lr k O X hBl hlX hOl hk hI hV hsz
              obtain ⟨hI, hM, h9⟩ := hI
              obtain ⟨t, ht'⟩ : ∃ t, L.terms[k]? = some t := ⟨_, List.getElem?_eq_getElem hk⟩
              have ht : L.terms.getD k default = t := by simp [List.getD, ht']
              obtain ⟨tv, tt⟩ := t
              clear hst7 hDm7 n7 nW kW htWr
              simp only [ht, TermD.val]
              have XhI := Lib.hid hI
              have XhM := Lib.hid hM
              have Xh9 := Lib.hid h9
              have Xht := Lib.hid ht
              have Xht' := Lib.hid ht'
              have XhV := Lib.hid hV
              have Xhk := Lib.hid hk
              have XhOl := Lib.hid hOl
              clear hI hM h9 ht ht' hV hk hOl
              gi_wp2
              refine ⟨Keep.alloc _ _ _, fun Y hY hYs hYl => ?_⟩
              have hXY : Keep (fun b => b ≠ lr) X Y := (Keep.alloc _ X _).trans hY
              have nt := hY.heap (new_block X (.cells #[.bool tv, .string tt] 35)) (show X.heap.size ≠ lr by omega)
              have hIY := XhI.out.keep hXY (fun b hb => by omega) (fun b hb => by have := Xhv6.out b hb; omega)
              have hMY := XhM.out.keep (O' := fun b => v'.ownBlock = some b) hXY (fun D hD => by have := heap_lt (XhDm6.out D hD).2; omega) (fun _ _ h => h)
              have h9Y := hXY.heap Xh9.out (by omega)
              have hVY : termsV w.heap.size W4.heap.size Wr (litCells L (.slice aa L.atom.args.length caps)).toArray Y := ⟨hXY.heap XhV.out.1 (by omega), XhV.out.2.trans (hXY.mono fun b _ hb => by omega)⟩
              have f3 := cells_of_block nt 0 _ rfl
              have f4 := cells_of_block nt 1 _ rfl
              have f5 := cells_of_block h9Y 0 _ rfl
              have f6 := box_cell hIY.mbox
              simp only [Nat.zero_add, Nat.add_zero] at f3 f4 f5
              have hYs' : Y.heap.size = X.heap.size + 1 := by simpa using hYs
              obtain ⟨Y1, hr9, hs9, hk9, hz9⟩ := run_update_set (P := Try.prog) (T := 67) (K := 9) (E := 4) Try.underlying67 Try.underlying9 hIY.set tt
              have hskip : (tv = false ∨ (L.kind == 1) = false) → bodyEnd Wr.heap.size X.heap.size (termsV w.heap.size W4.heap.size Wr (litCells L (.slice aa L.atom.args.length caps)).toArray) O Y Y
                  (fun O' => WayMem r (ruleCells r (.slice ah r.head.args.length capH) (.slice (some ⟨b, off, none⟩) r.body.length capB)).toArray w (taken.set i true) (bindT L s (k + 1)) (out ++ [i]) v' Y ∧ MarksAt Ds (fun b => v'.ownBlock = some b) Y ∧ Y.heap[wr.heap.size]? = some (.cells (litCells L (.slice aa L.atom.args.length caps)).toArray 37 (0, 0))) := fun h =>
                ⟨O, fun _ h => h, fun _ h => .inl h, Keep.refl _ _, hVY, by rw [bindT_skip Xht'.out h]; exact hIY, hMY, h9Y⟩
              have htake : tv = true → (L.kind == 1) = true → bodyEnd Wr.heap.size X.heap.size (termsV w.heap.size W4.heap.size Wr (litCells L (.slice aa L.atom.args.length caps)).toArray) O Y Y1
                  (fun O' => WayMem r (ruleCells r (.slice ah r.head.args.length capH) (.slice (some ⟨b, off, none⟩) r.body.length capB)).toArray w (taken.set i true) (bindT L s (k + 1)) (out ++ [i]) v' Y1 ∧ MarksAt Ds (fun b => v'.ownBlock = some b) Y1 ∧ Y1.heap[wr.heap.size]? = some (.cells (litCells L (.slice aa L.atom.args.length caps)).toArray 37 (0, 0))) := fun h h' =>
                ⟨O, fun _ h => h, fun _ h => .inl h, hk9.mono (fun b _ h => by omega), ⟨hk9.heap hVY.1 (by omega), hVY.2.trans (hk9.mono fun b _ hb => by omega)⟩,
                  ⟨hk9.heap hIY.rbox (by omega), hk9.heap hIY.mbox (by omega), by rw [bindT_take Xht'.out h h']; exact hs9, hk9.heap hIY.tak (by omega), own_kept hIY.own hk9 (fun b hb => by have := Xhv6.out b hb; omega), hIY.old.trans (hk9.mono fun b _ hb => by omega)⟩,
                  hMY.keep hk9 (fun D hD => by have := XhDs.out D hD; omega) (fun _ _ h => h), hk9.heap h9Y (by omega)⟩
              have hXb : w.heap.size + 1 + 1 < Y.heap.size := by omega
              clear hIY hMY h9Y hVY nt hXY hY hYl hs9 hk9 hz9
              cases tv with
              | false =>
                have hf := hskip (.inl rfl)
                clear hskip htake
                have Xhf := Lib.hid hf
                clear hf
                gi_wp2
                first | exact Xhf.out | (refine ⟨fun _ h => (by cases h), ?_⟩; gi_wp2; exact Xhf.out)
              | true =>
                by_cases hk1 : (L.kind == 1) = true
                · have hf := htake rfl hk1
                  clear hskip htake
                  have Xhf := Lib.hid hf
                  clear hf
                  gi_wp2
                  exact Xhf.out
                · have hk1 : (L.kind == 1) = false := by simpa using hk1
                  have hf := hskip (.inr hk1)
                  clear hskip htake
                  have Xhf := Lib.hid hf
                  clear hf
                  gi_wp2
                  exact Xhf.out
            case done =>
              rintro D O Wd hD hOD hWD hsd ⟨hI, hI2, hI3⟩ hV
              rw [bindT_all] at hI
              obtain ⟨n', rfl⟩ : ∃ n', n = n' + 1 := ⟨n - 1, by have := Xhcn.out; omega⟩
              have hct := count_take Xhtg.out
              have hgo2 : wayGo r.body n' (taken.set i true) (bindAt s L) (out ++ [i]) = wayD r.body := by
                have h := Xhgo.out
                simp only [wayGo, Xhpk2.out, XhLd.out] at h
                exact h
              have hDm : MarksAt (D :: Ds) (fun b => v'.ownBlock = some b) Wd := fun E hE => by
                rcases List.mem_cons.1 hE with rfl | hE
                · exact ⟨fun h => by have := Xhv6.out E h; omega, hWD⟩
                · exact hI2 E hE
              have hDn : (D :: Ds).Nodup := List.nodup_cons.2 ⟨fun h => by have := heap_lt (XhDm6.out D h).2; omega, XhDn.out⟩
              have hDs : ∀ E, E ∈ D :: Ds → w.heap.size + 1 + 1 + 1 < E := fun E hE => by
                rcases List.mem_cons.1 hE with rfl | hE
                · omega
                · exact XhDs.out E hE
              have hcn := Xhcn.out
              have hT1 := takN_eq hI.tak
              clear hst7 hDm7 n7 nW kW htWr hI3
              have XhI := Lib.hid hI
              have XhI2 := Lib.hid hI2
              have XhV := Lib.hid hV
              have XhWD := Lib.hid hWD
              have XhDm := Lib.hid hDm
              have XhDn := Lib.hid hDn
              have XhDs := Lib.hid hDs
              have Xhgo2 := Lib.hid hgo2
              have Xhct := Lib.hid hct
              have XhT1 := Lib.hid hT1
              have Xhcn := Lib.hid hcn
              clear hI hI2 hV hWD hDm hDn hDs hgo2 hct hT1 hcn
              gi_wp2
              refine ⟨⟨_, _, _, _, _, _, _, _, _, _, _, _, _, _, _, _, _, _, _, _, _, _, _, _, _, _, _, _, _, _, _, _, _, _, _, _, _, _, _, _, _, _, _, _, _, _, _, _, _, _, _, _, _, _, _, _, _, _, _, _, _, _, _, _, _, _, ⟨n', taken.set i true, bindAt s L, out ++ [i], D :: Ds, Xhgo2.out, ?_, ?_, ?_, rfl, rfl, rfl, XhI.out, rfl, XhDn.out, XhDs.out, XhDm.out⟩, rfl⟩, ?_⟩
              · have := Xhct.out; have := Xhcn.out; omega
              · simpa using Xhtl.out
              · have := Xhct.out; have := Xhol.out; simp; omega
              · have := XhT1.out; have := XhT0.out; have := Xhct.out; omega
            case stop =>
              rintro D c k O Wd hD hOD hWD hsd hk h hV
              exact h.elim
        · have hno2 : (List.range (i + 1)).find? (fun i => wants r.body taken i && readyD (r.body.getD i default) s) = none := by
            rw [range_find _ i hno, if_neg (by simp [hw])]
          have han2 : (List.range (i + 1)).any (wants r.body taken) = (List.range i).any (wants r.body taken) := by
            rw [range_any]; simp [hw]
          have hcase : tk = true ∨ (tk = false ∧ L.kind < 1) ∨ (tk = false ∧ ¬ L.kind < 1 ∧ 3 < L.kind) := by
            rw [hwant] at hw
            cases tk with
            | true => exact .inl rfl
            | false =>
              simp [litKind] at hw
              by_cases h1 : L.kind < 1
              · exact .inr (.inl ⟨rfl, h1⟩)
              · exact .inr (.inr ⟨rfl, h1, by omega⟩)
          clear g hcl hts hels hA hm hwant hw hno htk hLd hL
          have Xhst := Lib.hid hst
          have Xhst2 := Lib.hid hst2
          have XhDm := Lib.hid hDm
          have XhDm2 := Lib.hid hDm2
          have Xhno2 := Lib.hid hno2
          have Xhan2 := Lib.hid han2
          clear hst hst2 hDm hDm2 hno2 han2
          rcases hcase with rfl | ⟨rfl, h1⟩ | ⟨rfl, h1, h3⟩
          all_goals
            gi_wp2
            exact ⟨⟨i + 1, by omega, by go_num, by rw [Xhan2.out], Xhno2.out, Xhst2.out, XhDm2.out, by simp; omega⟩, by simp [intOf]; omega⟩
      · have hie : i = r.body.length := by omega
        subst hie
        have hpk : pickAt r.body taken s = none := hno
        obtain ⟨n', hn'⟩ : ∃ n', n = n' + 1 := ⟨n - 1, by have := Xhcn.out; omega⟩
        have hans : wayD r.body = if leftAt r.body taken = true then ([], false) else (out, true) := by
          have h := Xhgo.out
          rw [hn'] at h
          simp only [wayGo, hpk] at h
          exact h.symm
        have hle : (List.range r.body.length).any (wants r.body taken) = leftAt r.body taken := rfl
        rw [hle]
        cases hl : leftAt r.body taken with
        | true =>
          rw [hl, if_pos rfl] at hans
          have Xhst := Lib.hid hst
          have XhDm := Lib.hid hDm
          have Xhans := Lib.hid hans
          clear hst hDm hans
          gi_wp2
          rw [Exit.noGoto_ret]
          refine leaves_marks Ds _ XhDn.out (fun E hE => (XhDm.out E hE).2) (fun w' hK hs => ?_)
          refine leaves_nil (v := .tuple #[.slice none 0 0, .bool false]) (by simp [results, Try.results19, go_sem]) ?_
          rw [Xhans.out]
          exact ⟨_, rfl, Xhst.out.old.trans (hK.mono fun b _ h hb => by have := XhDs.out b hb; omega), World.ownsRow_nil _ _ _ _⟩
        | false =>
          rw [hl, if_neg (by simp)] at hans
          have Xhst := Lib.hid hst
          have XhDm := Lib.hid hDm
          have Xhans := Lib.hid hans
          clear hst hDm hans
          gi_wp2
          rw [Exit.noGoto_ret]
          refine leaves_marks Ds _ XhDn.out (fun E hE => (XhDm.out E hE).2) (fun w' hK hs => ?_)
          refine leaves_nil (v := .tuple #[u6, .bool true]) (by simp [results, Try.results19, go_sem]) ?_
          rw [Xhans.out]
          exact ⟨_, rfl, Xhst.out.old.trans (hK.mono fun b _ h hb => by have := XhDs.out b hb; omega), own_base (own_kept Xhst.out.own hK (fun b hb hd => (XhDm.out b hd).1 hb)) (by omega)⟩
end Go.Proofs
