/- Layer 4, the law: goes (left behind no turn). -/
import Derived.Test.YtbaemcmagkmjiaaProg
import Derived.Test.YtbaemcmagkmjiaaRelXToRelY
namespace Go.Proofs
open Go.RowKit Go.Ink
set_option linter.unusedVariables false
set_option linter.unusedSimpArgs false
attribute [local go_sem] Oper.semAt_some

theorem run_eql_func_nil {P : Program} {t : TypeId} {ps rs : Array TypeId} {vd : Bool} (h : P.underlying t = some (.func ps rs vd)) (w : World) (f : Fn) (x y : Array Value) : (binOp .eql t (.func f x y) .nilFunc).run P w = .ok (.bool false) w := by
  have h1 : ∀ d, (Op.equalIn (d + 1) t (.func f x y) .nilFunc).run P w = .ok false w := fun d => by
    simp [Op.equalIn, run_underlying h]
  simp only [binOp]
  simp [Op.equal, Op.maxDepth, h1 9999]
theorem skipWF {F : Fence} (hF : ∀ f, F.fn f) {n : Nat} {P : Program} {w : World} {ops : Array Oper} {rest : List Oper} {o : Oper} {a : Act} {Q : Exit → Act → World → Prop}
    (hw : Region.wanted o (yielded ops a.tmps) = false) (h : wpListIn F n P ops Q rest (a.put o.dst undef) w) : wpListIn F n P ops Q (o :: rest) a w := by
  unfold wpListIn
  rw [if_neg (by rw [hw]; simp)]
  exact ⟨fun f _ => hF f, h⟩
theorem RelSame.free {s0 s : RelS} {w X : World} (h : RelSame s0 w s X) {b : Nat} (hb : b < w.heap.size) (hf : s0.tag b = none) : s.tag b = none := by
  cases hT : s.tag b with
  | none => rfl
  | some T =>
    rcases h.new b T hT with ⟨T', h3⟩ | h3
    · rw [hf] at h3; cases h3
    · omega

theorem RelIt.lt {B n P K : Nat} {s s' : RelS} {X Y : World} (h : RelIt B n P K s X s' Y) : ∀ b T, s'.tag b = some T → b < Y.heap.size := fun b T hb => h.inv.own.lt b T hb

/-- what stands in goes' own boxes -/
structure GoesBox (b5 b6 b7 b8 bt Bf : Nat) (vp : Value) (leave : Int) (turn : Nat) (s : RelS) (X : World) : Prop where
  h5 : BoxAt X b5 25 (.pointer (some ⟨Bf, 0, none⟩))
  h6 : BoxAt X b6 23 vp
  h7 : BoxAt X b7 3 (.int .i64 leave)
  h8 : ∃ v, BoxAt X b8 4 (.bool v)
  ht : BoxAt X bt 3 (.int .i64 (turn : Int))
  fr : s.tag b5 = none ∧ s.tag b6 = none ∧ s.tag b7 = none ∧ s.tag b8 = none ∧ s.tag bt = none
theorem GoesBox.on {b5 b6 b7 b8 bt Bf : Nat} {vp : Value} {leave : Int} {turn : Nat} {s0 s : RelS} {w X : World} (h : GoesBox b5 b6 b7 b8 bt Bf vp leave turn s0 w) (g : RelSame s0 w s X) : GoesBox b5 b6 b7 b8 bt Bf vp leave turn s X := by
  obtain ⟨f5, f6, f7, f8, ft⟩ := h.fr
  obtain ⟨v8, h8⟩ := h.h8
  exact ⟨h.h5.keep g.keep ⟨f5, h.h5.lt⟩, h.h6.keep g.keep ⟨f6, h.h6.lt⟩, h.h7.keep g.keep ⟨f7, h.h7.lt⟩, ⟨v8, h8.keep g.keep ⟨f8, h8.lt⟩⟩, h.ht.keep g.keep ⟨ft, h.ht.lt⟩,
    g.free h.h5.lt f5, g.free h.h6.lt f6, g.free h.h7.lt f7, g.free h8.lt f8, g.free h.ht.lt ft⟩

set_option maxRecDepth 100000 in
set_option maxHeartbeats 4000000 in
theorem goes0_any {B n P KM : Nat} {s0 : RelS} {F : Nat → Prop} {Bf : Nat} {vL : Value} {svs : List Value} {w : World} (hb : Both B n P KM s0 F Bf vL svs w) (gf : Nat) (lb : Array Value) (eg : ∀ args w, (callFunc gf args).run Try.prog w = .ok (.enter gf args) w)
    (N : RelS → Nat) (A : RelS → Nat → RelS → Nat → World → Array Value → Prop) (V : World → Prop) (U : Nat → Prop) (hit : IterG Try.prog gf lb (relSys B n P KM) N A V U) (hV : V w) (hVU : ∀ X Y, V X → Keep U X Y → V Y) (hU : ∀ b, U b → b < w.heap.size ∧ s0.tag b = none)
    (places : List Nat) (hpl : places.length ≤ 67108864) (vp : Value) (hp : w.ownsRow 0 3 1 vp places.length (places.map natV)) (hpo : ∀ b, vp.ownBlock = some b → s0.tag b = none) (hN : ∀ s, s.ts = s0.ts → N s = places.length)
    (hA : ∀ s k s' m X args, s.ts = s0.ts → A s k s' m X args → ∃ i t, places[k]? = some i ∧ s0.ts[i]? = some t ∧ Told i t m X args) (hAs : ∀ s k s' m X args, A s k s' m X args → args.size = 2) :
    Calls Try.prog 15 #[.func (.func gf) #[] lb, .pointer (some ⟨Bf, 0, none⟩), vp, .int .i64 0] w fun e w' => e = .returned (.bool true) ∧
      ∃ s', RelInv B n P KM s' w' ∧ RelSame s0 w s' w' := by
  refine calls_of Try.func15 rfl ?_
  simp only [Try.ntmps15, List.size_toArray, List.length_cons, List.length_nil, Nat.reduceAdd, Nat.reduceSub, Array.replicate_succ, Array.replicate_zero, List.push_toArray, List.append_toArray, List.nil_append, List.cons_append]
  obtain ⟨ap, cp, rfl⟩ := own_form hp
  obtain ⟨W1, hW1⟩ : ∃ W1, (((w.alloc (.cells #[.pointer (some ⟨Bf, 0, none⟩)] 25)).alloc (.cells #[.slice ap places.length cp] 23)).alloc (.cells #[.int .i64 0] 3)).alloc (.cells #[.bool false] 4) = W1 := ⟨_, rfl⟩
  have k1 : Keep (fun _ => True) w W1 := by rw [← hW1]; exact ((((Keep.alloc _ _ _).trans (Keep.alloc _ _ _)).trans (Keep.alloc _ _ _)).trans (Keep.alloc _ _ _))
  have z1 : W1.heap.size = w.heap.size + 1 + 1 + 1 + 1 := by rw [← hW1]; simp
  have g5 : BoxAt W1 w.heap.size 25 (.pointer (some ⟨Bf, 0, none⟩)) := by rw [← hW1]; unfold BoxAt; simp only [alloc_get, World.size_alloc]; first | (simp; done) | (simp; omega) | ((repeat rw [if_neg (by omega)]); first | rw [if_pos rfl] | rw [if_pos trivial] | simp)
  have g6 : BoxAt W1 (w.heap.size + 1) 23 (.slice ap places.length cp) := by rw [← hW1]; unfold BoxAt; simp only [alloc_get, World.size_alloc]; first | (simp; done) | (simp; omega) | ((repeat rw [if_neg (by omega)]); first | rw [if_pos rfl] | rw [if_pos trivial] | simp)
  have g7 : BoxAt W1 (w.heap.size + 1 + 1) 3 (.int .i64 0) := by rw [← hW1]; unfold BoxAt; simp only [alloc_get, World.size_alloc]; first | (simp; done) | (simp; omega) | ((repeat rw [if_neg (by omega)]); first | rw [if_pos rfl] | rw [if_pos trivial] | simp)
  have g8 : BoxAt W1 (w.heap.size + 1 + 1 + 1) 4 (.bool false) := by rw [← hW1]; unfold BoxAt; simp only [alloc_get, World.size_alloc]; first | (simp; done) | (simp; omega) | ((repeat rw [if_neg (by omega)]); first | rw [if_pos rfl] | rw [if_pos trivial] | simp)
  obtain ⟨W2, hW2⟩ : ∃ W2, W1.alloc (.cells #[.int .i64 0] 3) = W2 := ⟨_, rfl⟩
  have k2 : Keep (fun _ => True) W1 W2 := by rw [← hW2]; exact Keep.alloc _ _ _
  have z2 : W2.heap.size = W1.heap.size + 1 := by rw [← hW2]; simp
  have gt : BoxAt W2 W1.heap.size 3 (.int .i64 ((0 : Nat) : Int)) := by rw [← hW2]; exact new_block _ _
  have hfr : ∀ b, w.heap.size ≤ b → s0.tag b = none := fun b hb' => by
    cases hT : s0.tag b with
    | none => rfl
    | some T => have := hb.rel.own.lt b T hT; omega
  have k12 : Keep (fun _ => True) w W2 := k1.trans k2
  have hbox : GoesBox w.heap.size (w.heap.size + 1) (w.heap.size + 1 + 1) (w.heap.size + 1 + 1 + 1) W1.heap.size Bf (.slice ap places.length cp) 0 0 s0 W2 :=
    ⟨g5.keep k2 trivial, g6.keep k2 trivial, g7.keep k2 trivial, ⟨_, g8.keep k2 trivial⟩, gt, hfr _ (by omega), hfr _ (by omega), hfr _ (by omega), hfr _ (by omega), hfr _ (by omega)⟩
  have hinv2 : RelInv B n P KM s0 W2 := hb.rel.keep (k12.mono fun _ _ _ => trivial)
  have hsame2 : RelSame s0 w s0 W2 := (RelSame.refl s0 w).keepOn k12 (fun _ _ _ => trivial)
  have hV2 : V W2 := hVU _ _ hV (k12.mono fun _ _ _ => trivial)
  have c8 := g8.cell
  obtain ⟨b5, h5⟩ : ∃ b5, w.heap.size = b5 := ⟨_, rfl⟩
  obtain ⟨bt, ht⟩ : ∃ bt, W1.heap.size = bt := ⟨_, rfl⟩
  rw [h5, ht] at hbox
  have hwz : w.heap.size ≤ W2.heap.size := k12.size
  have hnil : ∀ W, (binOp .eql 32 (.func (.func gf) #[] lb) .nilFunc).run Try.prog W = .ok (.bool false) W := fun W => run_eql_func_nil Try.underlying32 W _ _ _
  clear k1 z1 g5 g6 g7 g8 k2 z2 gt c8 k12
  have Xhb := Lib.hid hb
  have XhV := Lib.hid hV
  have XhVU := Lib.hid hVU
  have XhU := Lib.hid hU
  have Xhp := Lib.hid hp
  have Xhpo := Lib.hid hpo
  have XhN := Lib.hid hN
  have XhA := Lib.hid hA
  have XhAs := Lib.hid hAs
  have Xhit := Lib.hid hit
  have Xeg := Lib.hid eg
  have Xhfr := Lib.hid hfr
  have Xhbox := Lib.hid hbox
  have Xhinv2 := Lib.hid hinv2
  have Xhsame2 := Lib.hid hsame2
  have XhV2 := Lib.hid hV2
  have XhW2 := Lib.hid hW2
  clear hb hV hVU hU hp hpo hN hA hAs hit eg hfr hbox hinv2 hsame2 hV2 hW2
  gi_wp2
  rw [XhW2.out]
  refine wpIn_loop (fun a' wr => ∃ (u0 u1 u2 u3 u4 u5 u6 u7 u8 u9 u10 u11 u12 u13 u14 u15 u16 u17 u18 u19 u20 u21 u22 u23 u24 u25 u26 u27 u28 u29 u30 u31 u32 u33 u34 u35 u36 u37 u38 u39 u40 u41 u42 u43 u44 u45 u46 u47 u48 u49 u50 u51 u52 u53 u54 u55 u56 u57 u58 u59 u60 u61 u62 u63 u64 u65 u66 u67 u68 u69 u70 u71 u72 u73 u74 u75 u76 u77 u78 u79 u80 u81 u82 u83 u84 u85 : Value) (ds : List Deferred), (∃ (turn bt : Nat) (Ds : List Nat) (s : RelS), turn ≤ 2 ∧ u0 = .func (.func gf) #[] lb ∧ u5 = .pointer (some ⟨b5, 0, none⟩) ∧ u6 = .pointer (some ⟨b5 + 1, 0, none⟩) ∧ u7 = .pointer (some ⟨b5 + 1 + 1, 0, none⟩) ∧ u8 = .pointer (some ⟨b5 + 1 + 1 + 1, 0, none⟩) ∧ u9 = .pointer (some ⟨bt, 0, none⟩) ∧
      GoesBox b5 (b5 + 1) (b5 + 1 + 1) (b5 + 1 + 1 + 1) bt Bf (.slice ap places.length cp) 0 turn s wr ∧ RelInv B n P KM s wr ∧ RelSame s0 w s wr ∧ V wr ∧ w.heap.size ≤ wr.heap.size ∧ ds = marks Ds ∧ Ds.Nodup ∧ (∀ D, D ∈ Ds → w.heap.size ≤ D ∧ s.tag D = none) ∧ MarksAt Ds (fun _ => False) wr) ∧
      a' = { tmps := #[u0, u1, u2, u3, u4, u5, u6, u7, u8, u9, u10, u11, u12, u13, u14, u15, u16, u17, u18, u19, u20, u21, u22, u23, u24, u25, u26, u27, u28, u29, u30, u31, u32, u33, u34, u35, u36, u37, u38, u39, u40, u41, u42, u43, u44, u45, u46, u47, u48, u49, u50, u51, u52, u53, u54, u55, u56, u57, u58, u59, u60, u61, u62, u63, u64, u65, u66, u67, u68, u69, u70, u71, u72, u73, u74, u75, u76, u77, u78, u79, u80, u81, u82, u83, u84, u85], defers := ds }) (fun a' wr => (2 - boxInt wr (a'.tmps.getD 9 undef)).toNat) ?atStart ?round
  case atStart =>
    exact ⟨_, _, _, _, _, _, _, _, _, _, _, _, _, _, _, _, _, _, _, _, _, _, _, _, _, _, _, _, _, _, _, _, _, _, _, _, _, _, _, _, _, _, _, _, _, _, _, _, _, _, _, _, _, _, _, _, _, _, _, _, _, _, _, _, _, _, _, _, _, _, _, _, _, _, _, _, _, _, _, _, _, _, _, _, _, _, [], ⟨0, bt, [], s0, by omega, rfl, rfl, rfl, rfl, rfl, rfl, Xhbox.out, Xhinv2.out, Xhsame2.out, XhV2.out, hwz, rfl, List.nodup_nil, by simp, by simp [MarksAt]⟩, rfl⟩
  case round =>
    intro a' wr hI
    refine Exists.elim hI ?_; clear hI; intro u0 hI
    refine Exists.elim hI ?_; clear hI; intro u1 hI
    refine Exists.elim hI ?_; clear hI; intro u2 hI
    refine Exists.elim hI ?_; clear hI; intro u3 hI
    refine Exists.elim hI ?_; clear hI; intro u4 hI
    refine Exists.elim hI ?_; clear hI; intro u5 hI
    refine Exists.elim hI ?_; clear hI; intro u6 hI
    refine Exists.elim hI ?_; clear hI; intro u7 hI
    refine Exists.elim hI ?_; clear hI; intro u8 hI
    refine Exists.elim hI ?_; clear hI; intro u9 hI
    refine Exists.elim hI ?_; clear hI; intro u10 hI
    refine Exists.elim hI ?_; clear hI; intro u11 hI
    refine Exists.elim hI ?_; clear hI; intro u12 hI
    refine Exists.elim hI ?_; clear hI; intro u13 hI
    refine Exists.elim hI ?_; clear hI; intro u14 hI
    refine Exists.elim hI ?_; clear hI; intro u15 hI
    refine Exists.elim hI ?_; clear hI; intro u16 hI
    refine Exists.elim hI ?_; clear hI; intro u17 hI
    refine Exists.elim hI ?_; clear hI; intro u18 hI
    refine Exists.elim hI ?_; clear hI; intro u19 hI
    refine Exists.elim hI ?_; clear hI; intro u20 hI
    refine Exists.elim hI ?_; clear hI; intro u21 hI
    refine Exists.elim hI ?_; clear hI; intro u22 hI
    refine Exists.elim hI ?_; clear hI; intro u23 hI
    refine Exists.elim hI ?_; clear hI; intro u24 hI
    refine Exists.elim hI ?_; clear hI; intro u25 hI
    refine Exists.elim hI ?_; clear hI; intro u26 hI
    refine Exists.elim hI ?_; clear hI; intro u27 hI
    refine Exists.elim hI ?_; clear hI; intro u28 hI
    refine Exists.elim hI ?_; clear hI; intro u29 hI
    refine Exists.elim hI ?_; clear hI; intro u30 hI
    refine Exists.elim hI ?_; clear hI; intro u31 hI
    refine Exists.elim hI ?_; clear hI; intro u32 hI
    refine Exists.elim hI ?_; clear hI; intro u33 hI
    refine Exists.elim hI ?_; clear hI; intro u34 hI
    refine Exists.elim hI ?_; clear hI; intro u35 hI
    refine Exists.elim hI ?_; clear hI; intro u36 hI
    refine Exists.elim hI ?_; clear hI; intro u37 hI
    refine Exists.elim hI ?_; clear hI; intro u38 hI
    refine Exists.elim hI ?_; clear hI; intro u39 hI
    refine Exists.elim hI ?_; clear hI; intro u40 hI
    refine Exists.elim hI ?_; clear hI; intro u41 hI
    refine Exists.elim hI ?_; clear hI; intro u42 hI
    refine Exists.elim hI ?_; clear hI; intro u43 hI
    refine Exists.elim hI ?_; clear hI; intro u44 hI
    refine Exists.elim hI ?_; clear hI; intro u45 hI
    refine Exists.elim hI ?_; clear hI; intro u46 hI
    refine Exists.elim hI ?_; clear hI; intro u47 hI
    refine Exists.elim hI ?_; clear hI; intro u48 hI
    refine Exists.elim hI ?_; clear hI; intro u49 hI
    refine Exists.elim hI ?_; clear hI; intro u50 hI
    refine Exists.elim hI ?_; clear hI; intro u51 hI
    refine Exists.elim hI ?_; clear hI; intro u52 hI
    refine Exists.elim hI ?_; clear hI; intro u53 hI
    refine Exists.elim hI ?_; clear hI; intro u54 hI
    refine Exists.elim hI ?_; clear hI; intro u55 hI
    refine Exists.elim hI ?_; clear hI; intro u56 hI
    refine Exists.elim hI ?_; clear hI; intro u57 hI
    refine Exists.elim hI ?_; clear hI; intro u58 hI
    refine Exists.elim hI ?_; clear hI; intro u59 hI
    refine Exists.elim hI ?_; clear hI; intro u60 hI
    refine Exists.elim hI ?_; clear hI; intro u61 hI
    refine Exists.elim hI ?_; clear hI; intro u62 hI
    refine Exists.elim hI ?_; clear hI; intro u63 hI
    refine Exists.elim hI ?_; clear hI; intro u64 hI
    refine Exists.elim hI ?_; clear hI; intro u65 hI
    refine Exists.elim hI ?_; clear hI; intro u66 hI
    refine Exists.elim hI ?_; clear hI; intro u67 hI
    refine Exists.elim hI ?_; clear hI; intro u68 hI
    refine Exists.elim hI ?_; clear hI; intro u69 hI
    refine Exists.elim hI ?_; clear hI; intro u70 hI
    refine Exists.elim hI ?_; clear hI; intro u71 hI
    refine Exists.elim hI ?_; clear hI; intro u72 hI
    refine Exists.elim hI ?_; clear hI; intro u73 hI
    refine Exists.elim hI ?_; clear hI; intro u74 hI
    refine Exists.elim hI ?_; clear hI; intro u75 hI
    refine Exists.elim hI ?_; clear hI; intro u76 hI
    refine Exists.elim hI ?_; clear hI; intro u77 hI
    refine Exists.elim hI ?_; clear hI; intro u78 hI
    refine Exists.elim hI ?_; clear hI; intro u79 hI
    refine Exists.elim hI ?_; clear hI; intro u80 hI
    refine Exists.elim hI ?_; clear hI; intro u81 hI
    refine Exists.elim hI ?_; clear hI; intro u82 hI
    refine Exists.elim hI ?_; clear hI; intro u83 hI
    refine Exists.elim hI ?_; clear hI; intro u84 hI
    refine Exists.elim hI ?_; clear hI; intro u85 hI
    obtain ⟨ds, ⟨turn, bt', Ds, s, htn, hu0, hu5, hu6, hu7, hu8, hu9, hbx, hiv, hsm, hVr, hwr, hds, hDn, hDs, hDm⟩, ha⟩ := hI
    subst ha hds hu0 hu5 hu6 hu7 hu8 hu9
    have hDlt : ∀ D, D ∈ Ds → D < wr.heap.size := fun D hD => heap_lt (hDm D hD).2
    have c5 := hbx.h5.cell
    have c6 := hbx.h6.cell
    have c7 := hbx.h7.cell
    have c9 := hbx.ht.cell
    have l5 := hbx.h5.lt
    have l6 := hbx.h6.lt
    have l7 := hbx.h7.lt
    have l9 := hbx.ht.lt
    obtain ⟨v8, hv8⟩ := id hbx.h8
    have c8 := hv8.cell
    have f8 := box_free hv8 0
    have l8 := hv8.lt
    have Xhbx := Lib.hid hbx
    have Xhiv := Lib.hid hiv
    have Xhsm := Lib.hid hsm
    have XhVr := Lib.hid hVr
    have XhDn := Lib.hid hDn
    have XhDs := Lib.hid hDs
    have XhDm := Lib.hid hDm
    have XhDlt := Lib.hid hDlt
    have Xhv8 := Lib.hid hv8
    clear hbx hiv hsm hVr hDn hDs hDm hDlt hv8
    by_cases ht2 : turn = 2
    · subst ht2
      have c9' : wr.cell? ⟨bt', 0, none⟩ = some (.int .i64 2) := c9
      clear c9
      gi_wp2
      have hb8 := set_box (.bool true) Xhv8.out
      have kb8 : Keep (fun b => b ≠ b5 + 1 + 1 + 1) wr (wr.setCell ⟨b5 + 1 + 1 + 1, 0, none⟩ (.bool true)) := Keep.setCell _ _ _ (by simp)
      have hne8 : ∀ D, D ∈ Ds → D ≠ b5 + 1 + 1 + 1 := fun D hD e => by
        have h1 := (XhDm.out D hD).2
        have h2 : wr.heap[b5 + 1 + 1 + 1]? = some (.cells #[.bool v8] 4 (0, 0)) := Xhv8.out
        rw [e, h2] at h1
        cases h1
      have hf8 := Xhbx.out.fr.2.2.2.1
      refine leaves_marks Ds _ XhDn.out (fun D hD => kb8.heap (XhDm.out D hD).2 (hne8 D hD)) (fun w' hK hs => ?_)
      have hc8 : w'.cell? ⟨b5 + 1 + 1 + 1, 0, none⟩ = some (.bool true) := hK.cell (box_cell hb8) (fun h => hne8 _ h rfl)
      refine leaves_nil (v := .bool true) (by simp [results, Try.results15, go_sem, hc8]) ⟨rfl, s, ?_, ?_⟩
      · exact (Xhiv.out.keep (kb8.mono fun b _ h e => by subst e; exact h hf8)).keep (hK.mono fun b _ h hm => h (XhDs.out b hm).2)
      · exact (Xhsm.out.keepOn kb8 (fun b hb' _ => by omega)).keepOn hK (fun b hb' _ hm => by have := (XhDs.out b hm).1; omega)
    · obtain ⟨tn, htn', htn0, htn1⟩ : ∃ tn : Int, (turn : Int) = tn ∧ 0 ≤ tn ∧ tn < 2 := ⟨_, rfl, by omega, by omega⟩
      rw [htn'] at c9
      obtain ⟨nb, hnb⟩ : ∃ nb, wr.heap.size = nb := ⟨_, rfl⟩
      obtain ⟨W3, hW3⟩ : ∃ W3, wr.alloc (.cells #[.int .i64 0] 3) = W3 := ⟨_, rfl⟩
      have k3 : Keep (fun _ => True) wr W3 := by rw [← hW3]; exact Keep.alloc _ _ _
      have z3 : W3.heap.size = nb + 1 := by rw [← hW3, ← hnb]; simp
      have bn3 : BoxAt W3 nb 3 (.int .i64 ((0 : Nat) : Int)) := by rw [← hW3, ← hnb]; exact new_block _ _
      have hlow : ∀ b T, s.tag b = some T → b < wr.heap.size := fun b T hb' => Xhiv.out.own.lt b T hb'
      have hfrs : ∀ b, nb ≤ b → s.tag b = none := fun b hb' => by
        cases hT : s.tag b with
        | none => rfl
        | some T => have := hlow b T hT; omega
      have hiv3 := Xhiv.out.keep (k3.mono fun _ _ _ => trivial)
      have hV3 := XhVU.out _ _ XhVr.out (k3.mono fun _ _ _ => trivial)
      have hsm3 : RelSame s wr s W3 := (RelSame.refl s wr).keepOn k3 (fun _ _ _ => trivial)
      have hUs : ∀ b, U b → s.tag b = none := fun b hb' => Xhsm.out.free (XhU.out b hb').1 (XhU.out b hb').2
      have hNs : N s = places.length := XhN.out s Xhsm.out.same
      have hUw : ∀ b, U b → b < wr.heap.size := fun b hb' => by have := (XhU.out b hb').1; omega
      clear k3
      have XhW3 := Lib.hid hW3
      have Xhnb := Lib.hid hnb
      have Xbn3 := Lib.hid bn3
      have Xhlow := Lib.hid hlow
      have Xhfrs := Lib.hid hfrs
      have Xhiv3 := Lib.hid hiv3
      have XhV3 := Lib.hid hV3
      have Xhsm3 := Lib.hid hsm3
      have XhUs := Lib.hid hUs
      have XhNs := Lib.hid hNs
      have XhUw := Lib.hid hUw
      clear hW3 hnb bn3 hlow hfrs hiv3 hV3 hsm3 hUs hNs hUw
      gi_wp2
      rw [XhW3.out, Xhnb.out]
      refine range_outerG (relSys B n P KM) s (gf := gf) (lb := lb) rfl Xeg.out Xhit.out XhUs.out (fun γ0 k γ m X args h => ?ps) Xhiv3.out (fun b hb' => Xhfrs.out b (by omega)) XhV3.out (fun X Y hv hk => XhVU.out _ _ hv (hk.mono fun b _ hu => by have := XhUw.out b hu; have := Xhnb.out; omega))
        (fun k s' X => BoxAt X nb 3 (.int .i64 (k : Int)) ∧ s'.tag nb = none ∧ RelSame s wr s' X ∧ ∀ b T, s'.tag b = some T → b < X.heap.size) (fun c k s' X => False) ?hI ?hIx ?hIs ?hIxs ?h0 ?round ?done ?stop
      case ps => exact XhAs.out _ _ _ _ _ _ h
      case hI =>
        rintro k s' X Y ⟨h1, h2, h3, h4⟩ hK
        have hnb' := Xhnb.out
        exact ⟨h1.keep hK (.inl (by omega)), h2, h3.keepOn hK (fun b hb' _ => .inl (by omega)), fun b T hb' => Nat.lt_of_lt_of_le (h4 b T hb') hK.size⟩
      case hIx => rintro c k s' X Y h; exact h.elim
      case hIs =>
        rintro k s' X s'' Y ⟨h1, h2, h3, h4⟩ hs
        exact ⟨h1.keep ((relSys B n P KM).ifree hs) h2, (relSys B n P KM).inew hs nb h1.lt h2, h3.it hs, fun b T hb' => RelIt.lt hs b T hb'⟩
      case hIxs => rintro c k s' X s'' Y h; exact h.elim
      case h0 => exact ⟨Xbn3.out, Xhfrs.out nb (Nat.le_refl _), Xhsm3.out, fun b T hb' => by have := Xhlow.out b T hb'; have := Xhnb.out; omega⟩
      case stop => rintro D c k s' W _ _ _ _ _ h; exact h.elim
      case round =>
        rintro l k s' X0 X args hBl hlX hfl hk ⟨h1, h2, h3, h4⟩ hist hinvX hVX hsz hAr
        obtain ⟨i, t, hpi, hti, v', rfl, hv1, hv2⟩ := XhA.out s k s' _ X args Xhsm.out.same hAr
        have hX0n : s'.tag nb = none := h2
        have hX : BoxAt X nb 3 (.int .i64 (k : Int)) ∧ s'.tag nb = none ∧ RelSame s wr s' X ∧ ∀ b T, s'.tag b = some T → b < X0.heap.size := ⟨h1.keep ((relSys B n P KM).ifree hist) h2, h2, h3.it hist, h4⟩
        have hXz : X0.heap.size ≤ X.heap.size := ((relSys B n P KM).ifree hist).size
        have hv0 : ∀ b, v'.ownBlock = some b → X0.heap.size ≤ b ∧ b < X.heap.size := fun b hb' => World.ownsRow.lt hv1 b hb'
        have hsX : RelSame s0 w s' X := Xhsm.out.trans hX.2.2.1
        have hbxX := Xhbx.out.on hX.2.2.1
        have hrefX := Xhb.out.ref.keep hsX.keep (fun b hF hl => ⟨Xhb.out.apart b hF, hl⟩)
        have hpX := own_kept Xhp.out hsX.keep (fun b hb' => ⟨Xhpo.out b hb', (World.ownsRow.lt Xhp.out b hb').2⟩)
        obtain ⟨at', ct', rfl⟩ := own_form hv1
        clear h1 h2 h3 h4 hist hAr hsX
        have Xhpi := Lib.hid hpi
        have Xhti := Lib.hid hti
        have Xhv1 := Lib.hid hv1
        have XhX := Lib.hid hX
        have XhbxX := Lib.hid hbxX
        have XhrefX := Lib.hid hrefX
        have XhpX := Lib.hid hpX
        have Xhfl := Lib.hid hfl
        have XhinvX := Lib.hid hinvX
        have XhVX := Lib.hid hVX
        have Xhv0 := Lib.hid hv0
        have Xhk := Lib.hid hk
        clear hpi hti hv1 hX hbxX hrefX hpX hfl hinvX hVX hv0 hk
        gi_wp2
        refine ⟨Keep.refl _ _, fun Y hY hYs hYl => ?_⟩
        have hbY := Xhbx.out
        obtain ⟨q1, q2, q3, q4⟩ := XhX.out
        have hnbw := Xhnb.out
        have hlb : ∀ b, b < W3.heap.size → b ≠ l := fun b hb' e => by omega
        have hlw : wr.heap.size < W3.heap.size := by omega
        have bnY := q1.keep hY (by omega)
        have b5Y := XhbxX.out.h5.keep hY (by have := Xhbx.out.h5.lt; omega)
        have b6Y := XhbxX.out.h6.keep hY (by have := Xhbx.out.h6.lt; omega)
        have b7Y := XhbxX.out.h7.keep hY (by have := Xhbx.out.h7.lt; omega)
        have btY := XhbxX.out.ht.keep hY (by have := Xhbx.out.ht.lt; omega)
        have hrefY := XhrefX.out.keep hY (fun b hF _ => by have := Xhb.out.lt b hF; omega)
        have hpY := own_kept XhpX.out hY (fun b hb' => by have := (World.ownsRow.lt Xhp.out b hb').2; omega)
        have hvY := own_kept Xhv1.out hY (fun b hb' => by have := (Xhv0.out b hb').1; omega)
        have hfew0 := Xhb.out.rel.few
        have hra := hrefY.lists (by omega)
        obtain ⟨aL, cL, rfl, hlL, hcL, heL⟩ := id hra.l
        obtain ⟨bL, oL, rfl, hbL, sv, hsvc, hsvi⟩ := heL i t Xhti.out
        have hil := (List.getElem?_eq_some_iff.1 Xhti.out).1
        have hkl := (List.getElem?_eq_some_iff.1 Xhpi.out).1
        obtain ⟨gp, hgp⟩ : ∃ gp, ap = some ⟨gp, 0, none⟩ := by
          rcases hpY.2 with ⟨_, e2⟩ | ⟨g, cap, cur, e1, _⟩
          · omega
          · injection e1 with q; exact ⟨g, q⟩
        subst hgp
        have cpk := own_elem hpY k (natV i) (by rw [List.getElem?_map, Xhpi.out]; rfl)
        have cRL := cells_of_block hrefY.box 1 _ rfl
        simp only [Nat.zero_add, Nat.mul_one] at cRL hsvc
        have cnY := bnY.cell
        have fnY := box_free bnY 0
        have c5Y := b5Y.cell
        have c6Y := b6Y.cell
        have c7Y := b7Y.cell
        have ctY := btY.cell
        rw [htn'] at ctY
        have lnY := bnY.lt
        have l5Y := b5Y.lt
        have l6Y := b6Y.lt
        have l7Y := b7Y.lt
        have ltY := btY.lt
        have lRY := heap_lt hrefY.box
        have lgp : gp < Y.heap.size := World.block_lt_of_cell? _ _ cpk
        have lbL : bL < Y.heap.size := World.block_lt_of_cell? _ _ hsvc
        have hkl1 : (k : Int) < places.length := by omega
        have hk0 : (0 : Int) ≤ k := by omega
        have hi0 : (0 : Int) ≤ i := by omega
        have hil1 : (i : Int) < s0.ts.length := by omega
        have hk1 : (k : Int) + 1 ≤ 67108864 := by omega
        have hvi : IntsIn Y.heap.size Y (.slice at' t.length ct') t := own_ints hvY hv2
        obtain ⟨aS, cS, rfl, _, _, _⟩ := id hsvi
        have hsame := sameL_any Y.heap.size _ _ t t Y hvi hsvi (Nat.le_refl _)
        rw [decide_eq_true (Eq.refl t)] at hsame
        clear hvi hsvi hra heL hlL hcL hlb q1 q2 q3 q4 hbY
        have hnbw2 : nb ≤ wr.heap.size := by omega
        have hdk : decide (places.length ≤ k) = false := decide_eq_false (by omega)
        have hdk2 : decide ((places.length : Int) ≤ k) = false := decide_eq_false (by omega)
        have hnbw3 : wr.heap.size ≤ nb := by omega
        clear hnbw
        have Xhsame := Lib.hid hsame
        have XhY := Lib.hid hY
        have XhYs := Lib.hid hYs
        have XhYl := Lib.hid hYl
        have XbnY := Lib.hid bnY
        have Xb5Y := Lib.hid b5Y
        have Xb6Y := Lib.hid b6Y
        have Xb7Y := Lib.hid b7Y
        have XbtY := Lib.hid btY
        have XhrefY := Lib.hid hrefY
        have XhpY := Lib.hid hpY
        have XhvY := Lib.hid hvY
        clear hsame hY hYs hYl bnY b5Y b6Y b7Y btY hrefY hpY hvY
        gi_wp2
        refine ⟨trivial, rfl, (CallsIn.inRound l (callsIn_wide.2 Xhsame.out)).mono ?_⟩
        rintro e Y1 ⟨rfl, kS⟩
        have hl1 := LooseIn.of_own (own_kept XhvY.out kS (fun _ _ => trivial))
        have hspoil := spoil_any hl1 hv2
        clear hl1
        have XkS := Lib.hid kS
        have Xhspoil := Lib.hid hspoil
        clear kS hspoil
        clear cnY fnY c5Y c6Y c7Y ctY lnY l5Y l6Y l7Y ltY lRY lgp lbL cpk cRL hsvc
        gi_wp2
        refine ⟨trivial, rfl, (CallsIn.inRound l (callsIn_wide.2 Xhspoil.out)).mono ?_⟩
        rintro e Y2 ⟨rfl, kP⟩
        have hvown : ∀ b, b < X0.heap.size → Value.ownBlock (.slice at' t.length ct') ≠ some b := fun b hb' e => by have := (Xhv0.out b e).1; omega
        have hX0w : wr.heap.size < X0.heap.size := by omega
        have kY2 : Keep (fun b => Value.ownBlock (.slice at' t.length ct') ≠ some b) Y Y2 := (XkS.out.mono fun _ _ _ => trivial).trans kP
        have bn2 := XbnY.out.keep kY2 (hvown nb (by omega))
        have b72 := Xb7Y.out.keep kY2 (hvown _ (by have := Xhbx.out.h7.lt; omega))
        have bt2 := XbtY.out.keep kY2 (hvown _ (by have := Xhbx.out.ht.lt; omega))
        have cn2 := bn2.cell
        have fn2 := box_free bn2 0
        have ln2 := bn2.lt
        have c72 := b72.cell
        have l72 := b72.lt
        have ct2 := bt2.cell
        have lt2 := bt2.lt
        rw [htn'] at ct2
        obtain ⟨Y3, hY3⟩ : ∃ Y3, Y2.setCell ⟨nb, 0, none⟩ (.int .i64 ((k : Int) + 1)) = Y3 := ⟨_, rfl⟩
        have kn3 : Keep (fun b => b ≠ nb) Y2 Y3 := by rw [← hY3]; exact Keep.setCell _ _ _ (by simp)
        have bn3' : BoxAt Y3 nb 3 (.int .i64 ((k : Int) + 1)) := by rw [← hY3]; exact set_box _ bn2
        have b73 := b72.keep kn3 (by have := Xhbx.out.h7.lt; omega)
        have bt3 := bt2.keep kn3 (by have := Xhbx.out.ht.lt; omega)
        have cn3 := bn3'.cell
        have ln3 := bn3'.lt
        have c73 := b73.cell
        have l73 := b73.lt
        have ct3 := bt3.cell
        have lt3 := bt3.lt
        rw [htn'] at ct3
        have hne1 : (((k : Int) + 1) == 0) = false := by rw [beq_eq_false_iff_ne]; omega
        have hf : bodyEndG (relSys B n P KM) W3.heap.size l X.heap.size V s' Y Y3 (fun s'' => BoxAt Y3 nb 3 (.int .i64 ((k + 1 : Nat) : Int)) ∧ s''.tag nb = none ∧ RelSame s wr s'' Y3 ∧ ∀ b T, s''.tag b = some T → b < Y3.heap.size) := by
          obtain ⟨q1, q2, q3, q4⟩ := XhX.out
          have kYY : Keep (fun b => Value.ownBlock (.slice at' t.length ct') ≠ some b ∧ b ≠ nb) Y Y3 := (kY2.mono fun b _ h => h.1).trans (kn3.mono fun b _ h => h.2)
          have hszY : X.heap.size ≤ Y3.heap.size := by have h1 := kYY.size; have h2 := XhYs.out; omega
          refine ⟨s', ?_, ?_, RelBd.refl _ _, kYY.mono (fun b hb' h => ⟨hvown b (by omega), by omega⟩), ?_, q2, ?_, fun b T hb' => by have := q4 b T hb'; omega⟩
          · refine ((relSys B n P KM).invk XhinvX.out (XhY.out.mono fun b _ h e => by subst e; exact h Xhfl.out.1)).keep (kYY.mono fun b _ h => ?_)
            cases hT : s'.tag b with
            | none => exact absurd hT h
            | some T => exact ⟨hvown b (q4 b T hT), fun e => by rw [e, q2] at hT; cases hT⟩
          · exact XhVU.out _ _ (XhVU.out _ _ XhVX.out (XhY.out.mono fun b _ hu => by have := XhUw.out b hu; omega)) (kYY.mono fun b _ hu => by have := XhUw.out b hu; exact ⟨hvown b (by omega), by omega⟩)
          · have : ((k + 1 : Nat) : Int) = (k : Int) + 1 := by simp
            rw [this]; exact bn3'
          · exact (q3.keepOn XhY.out (fun b hb' _ => by omega)).keepOn kYY (fun b hb' _ => ⟨hvown b (by omega), by omega⟩)
        clear kP kY2 bn2 b72 bt2 kn3 bn3' b73 bt3 hvown
        have Xhf := Lib.hid hf
        clear hf
        by_cases htz : tn = 0
        · subst htz
          gi_wp2
          exact Xhf.out
        · have htz1 : tn = 1 := by omega
          subst htz1
          gi_wp2
          exact Xhf.out
      case done =>
        rintro D s' W hD hfD hWD hsd ⟨h1, h2, h3, h4⟩ hinvW hVW
        rw [XhNs.out] at h1
        have hbx' := Xhbx.out.on h3
        have cn := h1.cell
        have ln := h1.lt
        have e5 := hbx'.h5.cell
        have e6 := hbx'.h6.cell
        have e7 := hbx'.h7.cell
        have e9 := hbx'.ht.cell
        rw [htn'] at e9
        have m6 := hbx'.h6.lt
        have m7 := hbx'.h7.lt
        have m9 := hbx'.ht.lt
        have hsmW := Xhsm.out.trans h3
        have hnbw := Xhnb.out
        have hplc : (0 : Int) ≤ places.length := by omega
        obtain ⟨bt2, hbt2⟩ : ∃ bt2, W.heap.size = bt2 := ⟨_, rfl⟩
        obtain ⟨W4, hW4⟩ : ∃ W4, W.alloc (.cells #[.int .i64 (tn + 1)] 3) = W4 := ⟨_, rfl⟩
        have k4 : Keep (fun _ => True) W W4 := by rw [← hW4]; exact Keep.alloc _ _ _
        have z4 : W4.heap.size = bt2 + 1 := by rw [← hW4, ← hbt2]; simp
        have t4 : BoxAt W4 bt2 3 (.int .i64 (tn + 1)) := by rw [← hW4, ← hbt2]; exact new_block _ _
        have hinv4 := RelInv.keep hinvW (k4.mono fun _ _ _ => trivial)
        have hbtn : s'.tag bt2 = none := by
          cases hT : s'.tag bt2 with
          | none => rfl
          | some T => have := h4 bt2 T hT; omega
        have hbox4 : GoesBox b5 (b5 + 1) (b5 + 1 + 1) (b5 + 1 + 1 + 1) bt2 Bf (.slice ap places.length cp) 0 (turn + 1) s' W4 := by
          obtain ⟨v, hv⟩ := hbx'.h8
          have hcast : ((turn + 1 : Nat) : Int) = tn + 1 := by rw [← htn']; simp
          exact ⟨hbx'.h5.keep k4 trivial, hbx'.h6.keep k4 trivial, hbx'.h7.keep k4 trivial, ⟨v, hv.keep k4 trivial⟩, by rw [hcast]; exact t4, hbx'.fr.1, hbx'.fr.2.1, hbx'.fr.2.2.1, hbx'.fr.2.2.2.1, hbtn⟩
        have hV4 := XhVU.out _ _ hVW (k4.mono fun _ _ _ => trivial)
        have hsm4 := hsmW.keepOn k4 (fun _ _ _ => trivial)
        have hDn' : (D :: Ds).Nodup := List.nodup_cons.2 ⟨fun h => by have := XhDlt.out D h; omega, XhDn.out⟩
        have hDs' : ∀ E, E ∈ D :: Ds → w.heap.size ≤ E ∧ s'.tag E = none := fun E hE => by
          rcases List.mem_cons.1 hE with rfl | hE
          · exact ⟨by omega, hfD⟩
          · exact ⟨(XhDs.out E hE).1, h3.free (XhDlt.out E hE) (XhDs.out E hE).2⟩
        have hDm' : MarksAt (D :: Ds) (fun _ => False) W4 := fun E hE => by
          rcases List.mem_cons.1 hE with rfl | hE
          · exact ⟨fun h => h, k4.heap hWD trivial⟩
          · exact ⟨fun h => h, k4.heap (h3.keep.heap (XhDm.out E hE).2 ⟨(XhDs.out E hE).2, XhDlt.out E hE⟩) trivial⟩
        have hww : w.heap.size ≤ W4.heap.size := by have := hsm4.keep.size; exact this
        have htz : tn = 0 ∨ tn = 1 := by omega
        have hct4 := t4.cell
        clear hnbw k4 z4 hbx' h1 h2 h3 h4 hinvW hVW hWD hfD hsmW hbtn t4
        have Xhbox4 := Lib.hid hbox4
        have Xhinv4 := Lib.hid hinv4
        have XhV4 := Lib.hid hV4
        have Xhsm4 := Lib.hid hsm4
        have XhDn' := Lib.hid hDn'
        have XhDs' := Lib.hid hDs'
        have XhDm' := Lib.hid hDm'
        have Xhbt2 := Lib.hid hbt2
        have XhW4 := Lib.hid hW4
        clear hbox4 hinv4 hV4 hsm4 hDn' hDs' hDm' hbt2 hW4
        have hm1 : boxInt wr (.pointer (some ⟨bt', 0, none⟩)) = tn := boxInt_eq (w := wr) (q := ⟨bt', 0, none⟩) c9
        have hm2 : boxInt W4 (.pointer (some ⟨bt2, 0, none⟩)) = tn + 1 := boxInt_eq (w := W4) (q := ⟨bt2, 0, none⟩) hct4
        clear hct4
        have Xhm1 := Lib.hid hm1
        have Xhm2 := Lib.hid hm2
        clear hm1 hm2
        rcases htz with rfl | rfl
        case' inl => have hW4' : W.alloc (.cells #[.int .i64 1] 3) = W4 := XhW4.out
        case' inr => have hW4' : W.alloc (.cells #[.int .i64 2] 3) = W4 := XhW4.out
        all_goals
          have XhW4' := Lib.hid hW4'
          clear hW4'
          gi_wp2
          rw [XhW4'.out, Xhbt2.out]
          refine ⟨⟨_, _, _, _, _, _, _, _, _, _, _, _, _, _, _, _, _, _, _, _, _, _, _, _, _, _, _, _, _, _, _, _, _, _, _, _, _, _, _, _, _, _, _, _, _, _, _, _, _, _, _, _, _, _, _, _, _, _, _, _, _, _, _, _, _, _, _, _, _, _, _, _, _, _, _, _, _, _, _, _, _, _, _, _, _, _, _, ⟨turn + 1, bt2, D :: Ds, s', by omega, rfl, rfl, rfl, rfl, rfl, rfl, Xhbox4.out, Xhinv4.out, Xhsm4.out, XhV4.out, hww, rfl, XhDn'.out, XhDs'.out, XhDm'.out⟩, rfl⟩, ?_⟩
          simp only [Array.getD_eq_getD_getElem?, List.getElem?_toArray, List.getElem?_cons_succ, List.getElem?_cons_zero, Option.getD_some, Xhm1.out, Xhm2.out]
          omega
end Go.Proofs
