/- Layer 4, the law RelationPlays: goes of a relation that is not there. -/
import Derived.Test.YtbaemcmagkmjiaaProg
import Derived.Test.YtbaemcmagkmjiaaPlayFToPlayG
import Derived.Test.YtbaemcmagkmjiaaRelAA
namespace Go.Proofs
open Go.RowKit Go.Ink
set_option linter.unusedVariables false
set_option linter.unusedSimpArgs false
attribute [local go_sem] Oper.semAt_some

def nilSys : IterSys Unit where
  inv _ _ := True
  free _ _ := True
  istep _ X _ Y := Keep (fun _ => True) X Y
  bstep _ _ _ := True
  ifree h := h
  inew _ _ _ _ := trivial
  bnew _ _ _ _ := trivial
  bmono _ _ := trivial
  invk _ _ := trivial
theorem ItN.iter {gf : Nat} {lb : Array Value} {V : World → Prop} {U : Nat → Prop} {n0 : Nat} {X : World} (h : ItN gf lb V U n0 X) : IterG Try.prog gf lb nilSys (fun _ => 0) (fun _ _ _ _ _ _ => False) V U := by
  intro l J Jx W γ0 hl hinv hV hU hJ hJx hround h0
  refine (h.it l W hl hV).mono ?_
  rintro e W' ⟨hv, hK⟩
  exact ⟨hv, hK.size, (), trivial, h.vu _ _ hV (hK.mono fun _ _ _ => trivial), .inl (hJ 0 γ0 W () W' h0 hK)⟩

/-- what stands in goes' own boxes -/
structure GoesN (b5 b6 b7 b8 bt : Nat) (vp : Value) (leave : Int) (turn : Nat) (w X : World) : Prop where
  h5 : BoxAt X b5 25 (.pointer none)
  h6 : BoxAt X b6 23 vp
  h7 : BoxAt X b7 3 (.int .i64 leave)
  h8 : ∃ v, BoxAt X b8 4 (.bool v)
  ht : BoxAt X bt 3 (.int .i64 (turn : Int))
  kw : Keep (fun b => b < w.heap.size) w X
  n8 : w.heap.size ≤ b8
theorem GoesN.keep {b5 b6 b7 b8 bt : Nat} {vp : Value} {leave : Int} {turn : Nat} {w X Y : World} {C : Nat → Prop} (h : GoesN b5 b6 b7 b8 bt vp leave turn w X) (hK : Keep C X Y) (hC : ∀ b, b < X.heap.size → C b) : GoesN b5 b6 b7 b8 bt vp leave turn w Y := by
  obtain ⟨v8, h8⟩ := h.h8
  exact ⟨h.h5.keep hK (hC _ h.h5.lt), h.h6.keep hK (hC _ h.h6.lt), h.h7.keep hK (hC _ h.h7.lt), ⟨v8, h8.keep hK (hC _ h8.lt)⟩, h.ht.keep hK (hC _ h.ht.lt), h.kw.trans (hK.mono fun b hb _ => hC b (by have := h.kw.size; omega)), h.n8⟩

set_option maxRecDepth 100000 in
set_option maxHeartbeats 4000000 in
theorem goes_nil {w : World} (leave : Int) {gf : Nat} {lb : Array Value} {V : World → Prop} {U : Nat → Prop} {n0 : Nat} (hi : ItN gf lb V U n0 w) :
    Calls Try.prog 15 #[.func (.func gf) #[] lb, .pointer none, .slice none 0 0, .int .i64 leave] w fun e w' => e = .returned (.bool true) ∧ Keep (fun b => b < w.heap.size) w w' := by
  refine calls_of Try.func15 rfl ?_
  simp only [Try.ntmps15, List.size_toArray, List.length_cons, List.length_nil, Nat.reduceAdd, Nat.reduceSub, Array.replicate_succ, Array.replicate_zero, List.push_toArray, List.append_toArray, List.nil_append, List.cons_append]
  have hit := hi.iter
  have eg := hi.eg
  obtain ⟨W1, hW1⟩ : ∃ W1, (((w.alloc (.cells #[.pointer none] 25)).alloc (.cells #[.slice none 0 0] 23)).alloc (.cells #[.int .i64 leave] 3)).alloc (.cells #[.bool false] 4) = W1 := ⟨_, rfl⟩
  have k1 : Keep (fun _ => True) w W1 := by rw [← hW1]; exact ((((Keep.alloc _ _ _).trans (Keep.alloc _ _ _)).trans (Keep.alloc _ _ _)).trans (Keep.alloc _ _ _))
  have z1 : W1.heap.size = w.heap.size + 1 + 1 + 1 + 1 := by rw [← hW1]; simp
  have g5 : BoxAt W1 w.heap.size 25 (.pointer none) := by rw [← hW1]; unfold BoxAt; simp only [alloc_get, World.size_alloc]; first | (simp; done) | (simp; omega) | ((repeat rw [if_neg (by omega)]); first | rw [if_pos rfl] | rw [if_pos trivial] | simp)
  have g6 : BoxAt W1 (w.heap.size + 1) 23 (.slice none 0 0) := by rw [← hW1]; unfold BoxAt; simp only [alloc_get, World.size_alloc]; first | (simp; done) | (simp; omega) | ((repeat rw [if_neg (by omega)]); first | rw [if_pos rfl] | rw [if_pos trivial] | simp)
  have g7 : BoxAt W1 (w.heap.size + 1 + 1) 3 (.int .i64 leave) := by rw [← hW1]; unfold BoxAt; simp only [alloc_get, World.size_alloc]; first | (simp; done) | (simp; omega) | ((repeat rw [if_neg (by omega)]); first | rw [if_pos rfl] | rw [if_pos trivial] | simp)
  have g8 : BoxAt W1 (w.heap.size + 1 + 1 + 1) 4 (.bool false) := by rw [← hW1]; unfold BoxAt; simp only [alloc_get, World.size_alloc]; first | (simp; done) | (simp; omega) | ((repeat rw [if_neg (by omega)]); first | rw [if_pos rfl] | rw [if_pos trivial] | simp)
  obtain ⟨W2, hW2⟩ : ∃ W2, W1.alloc (.cells #[.int .i64 0] 3) = W2 := ⟨_, rfl⟩
  have k2 : Keep (fun _ => True) W1 W2 := by rw [← hW2]; exact Keep.alloc _ _ _
  have z2 : W2.heap.size = W1.heap.size + 1 := by rw [← hW2]; simp
  have gt : BoxAt W2 W1.heap.size 3 (.int .i64 ((0 : Nat) : Int)) := by rw [← hW2]; exact new_block _ _
  have k12 : Keep (fun _ => True) w W2 := k1.trans k2
  have hbox : GoesN w.heap.size (w.heap.size + 1) (w.heap.size + 1 + 1) (w.heap.size + 1 + 1 + 1) W1.heap.size (.slice none 0 0) leave 0 w W2 :=
    ⟨g5.keep k2 trivial, g6.keep k2 trivial, g7.keep k2 trivial, ⟨_, g8.keep k2 trivial⟩, gt, k12.mono fun _ _ _ => trivial, by omega⟩
  have hV2 : V W2 := hi.vu _ _ hi.v (k12.mono fun _ _ _ => trivial)
  have c8 := g8.cell
  obtain ⟨b5, h5⟩ : ∃ b5, w.heap.size = b5 := ⟨_, rfl⟩
  obtain ⟨bt, ht⟩ : ∃ bt, W1.heap.size = bt := ⟨_, rfl⟩
  rw [h5, ht] at hbox
  have hwz : w.heap.size ≤ W2.heap.size := k12.size
  have hnil : ∀ W, (binOp .eql 32 (.func (.func gf) #[] lb) .nilFunc).run Try.prog W = .ok (.bool false) W := fun W => run_eql_func_nil Try.underlying32 W _ _ _
  have hVU := hi.vu
  have hUl : ∀ b, U b → b < w.heap.size := fun b hb => (hi.u b hb).2
  clear k1 z1 g5 g6 g7 g8 k2 z2 gt k12 hi
  have Xhit := Lib.hid hit
  have Xeg := Lib.hid eg
  have Xhbox := Lib.hid hbox
  have XhV2 := Lib.hid hV2
  have XhW2 := Lib.hid hW2
  have XhVU := Lib.hid hVU
  have XhUl := Lib.hid hUl
  clear hit eg hbox hV2 hW2 hVU hUl
  gi_wp2
  rw [XhW2.out]
  refine wpIn_loop (fun a' wr => ∃ (u0 u1 u2 u3 u4 u5 u6 u7 u8 u9 u10 u11 u12 u13 u14 u15 u16 u17 u18 u19 u20 u21 u22 u23 u24 u25 u26 u27 u28 u29 u30 u31 u32 u33 u34 u35 u36 u37 u38 u39 u40 u41 u42 u43 u44 u45 u46 u47 u48 u49 u50 u51 u52 u53 u54 u55 u56 u57 u58 u59 u60 u61 u62 u63 u64 u65 u66 u67 u68 u69 u70 u71 u72 u73 u74 u75 u76 u77 u78 u79 u80 u81 u82 u83 u84 u85 : Value) (ds : List Deferred), (∃ (turn bt : Nat) (Ds : List Nat), turn ≤ 2 ∧ u0 = .func (.func gf) #[] lb ∧ u5 = .pointer (some ⟨b5, 0, none⟩) ∧ u6 = .pointer (some ⟨b5 + 1, 0, none⟩) ∧ u7 = .pointer (some ⟨b5 + 1 + 1, 0, none⟩) ∧ u8 = .pointer (some ⟨b5 + 1 + 1 + 1, 0, none⟩) ∧ u9 = .pointer (some ⟨bt, 0, none⟩) ∧
      GoesN b5 (b5 + 1) (b5 + 1 + 1) (b5 + 1 + 1 + 1) bt (.slice none 0 0) leave turn w wr ∧ V wr ∧ ds = marks Ds ∧ Ds.Nodup ∧ (∀ D, D ∈ Ds → w.heap.size ≤ D) ∧ MarksAt Ds (fun _ => False) wr) ∧
      a' = { tmps := #[u0, u1, u2, u3, u4, u5, u6, u7, u8, u9, u10, u11, u12, u13, u14, u15, u16, u17, u18, u19, u20, u21, u22, u23, u24, u25, u26, u27, u28, u29, u30, u31, u32, u33, u34, u35, u36, u37, u38, u39, u40, u41, u42, u43, u44, u45, u46, u47, u48, u49, u50, u51, u52, u53, u54, u55, u56, u57, u58, u59, u60, u61, u62, u63, u64, u65, u66, u67, u68, u69, u70, u71, u72, u73, u74, u75, u76, u77, u78, u79, u80, u81, u82, u83, u84, u85], defers := ds }) (fun a' wr => (2 - boxInt wr (a'.tmps.getD 9 undef)).toNat) ?atStart ?round
  case atStart =>
    exact ⟨_, _, _, _, _, _, _, _, _, _, _, _, _, _, _, _, _, _, _, _, _, _, _, _, _, _, _, _, _, _, _, _, _, _, _, _, _, _, _, _, _, _, _, _, _, _, _, _, _, _, _, _, _, _, _, _, _, _, _, _, _, _, _, _, _, _, _, _, _, _, _, _, _, _, _, _, _, _, _, _, _, _, _, _, _, _, [], ⟨0, bt, [], by omega, rfl, rfl, rfl, rfl, rfl, rfl, Xhbox.out, XhV2.out, rfl, List.nodup_nil, by simp, by simp [MarksAt]⟩, rfl⟩
  case round =>
    intro a' wr hI
    refine Exists.elim hI ?_; clear hI; intro u0 hI
    refine Exists.elim hI ?_; clear hI; intro u1 hI
    refine Exists.elim hI ?_; clear hI; intro u2 hI
    refine Exists.elim hI ?_; clear hI; intro u3 hI
    refine Exists.elim hI ?_; clear hI; intro u4 hI
    refine Exists.elim hI ?_; clear hI; intro u5 hI
    refine Exists.elim hI ?_; clear hI; intro u6 hI
    refine Exists.elim hI ?_; clear hI; intro u7 hI
    refine Exists.elim hI ?_; clear hI; intro u8 hI
    refine Exists.elim hI ?_; clear hI; intro u9 hI
    refine Exists.elim hI ?_; clear hI; intro u10 hI
    refine Exists.elim hI ?_; clear hI; intro u11 hI
    refine Exists.elim hI ?_; clear hI; intro u12 hI
    refine Exists.elim hI ?_; clear hI; intro u13 hI
    refine Exists.elim hI ?_; clear hI; intro u14 hI
    refine Exists.elim hI ?_; clear hI; intro u15 hI
    refine Exists.elim hI ?_; clear hI; intro u16 hI
    refine Exists.elim hI ?_; clear hI; intro u17 hI
    refine Exists.elim hI ?_; clear hI; intro u18 hI
    refine Exists.elim hI ?_; clear hI; intro u19 hI
    refine Exists.elim hI ?_; clear hI; intro u20 hI
    refine Exists.elim hI ?_; clear hI; intro u21 hI
    refine Exists.elim hI ?_; clear hI; intro u22 hI
    refine Exists.elim hI ?_; clear hI; intro u23 hI
    refine Exists.elim hI ?_; clear hI; intro u24 hI
    refine Exists.elim hI ?_; clear hI; intro u25 hI
    refine Exists.elim hI ?_; clear hI; intro u26 hI
    refine Exists.elim hI ?_; clear hI; intro u27 hI
    refine Exists.elim hI ?_; clear hI; intro u28 hI
    refine Exists.elim hI ?_; clear hI; intro u29 hI
    refine Exists.elim hI ?_; clear hI; intro u30 hI
    refine Exists.elim hI ?_; clear hI; intro u31 hI
    refine Exists.elim hI ?_; clear hI; intro u32 hI
    refine Exists.elim hI ?_; clear hI; intro u33 hI
    refine Exists.elim hI ?_; clear hI; intro u34 hI
    refine Exists.elim hI ?_; clear hI; intro u35 hI
    refine Exists.elim hI ?_; clear hI; intro u36 hI
    refine Exists.elim hI ?_; clear hI; intro u37 hI
    refine Exists.elim hI ?_; clear hI; intro u38 hI
    refine Exists.elim hI ?_; clear hI; intro u39 hI
    refine Exists.elim hI ?_; clear hI; intro u40 hI
    refine Exists.elim hI ?_; clear hI; intro u41 hI
    refine Exists.elim hI ?_; clear hI; intro u42 hI
    refine Exists.elim hI ?_; clear hI; intro u43 hI
    refine Exists.elim hI ?_; clear hI; intro u44 hI
    refine Exists.elim hI ?_; clear hI; intro u45 hI
    refine Exists.elim hI ?_; clear hI; intro u46 hI
    refine Exists.elim hI ?_; clear hI; intro u47 hI
    refine Exists.elim hI ?_; clear hI; intro u48 hI
    refine Exists.elim hI ?_; clear hI; intro u49 hI
    refine Exists.elim hI ?_; clear hI; intro u50 hI
    refine Exists.elim hI ?_; clear hI; intro u51 hI
    refine Exists.elim hI ?_; clear hI; intro u52 hI
    refine Exists.elim hI ?_; clear hI; intro u53 hI
    refine Exists.elim hI ?_; clear hI; intro u54 hI
    refine Exists.elim hI ?_; clear hI; intro u55 hI
    refine Exists.elim hI ?_; clear hI; intro u56 hI
    refine Exists.elim hI ?_; clear hI; intro u57 hI
    refine Exists.elim hI ?_; clear hI; intro u58 hI
    refine Exists.elim hI ?_; clear hI; intro u59 hI
    refine Exists.elim hI ?_; clear hI; intro u60 hI
    refine Exists.elim hI ?_; clear hI; intro u61 hI
    refine Exists.elim hI ?_; clear hI; intro u62 hI
    refine Exists.elim hI ?_; clear hI; intro u63 hI
    refine Exists.elim hI ?_; clear hI; intro u64 hI
    refine Exists.elim hI ?_; clear hI; intro u65 hI
    refine Exists.elim hI ?_; clear hI; intro u66 hI
    refine Exists.elim hI ?_; clear hI; intro u67 hI
    refine Exists.elim hI ?_; clear hI; intro u68 hI
    refine Exists.elim hI ?_; clear hI; intro u69 hI
    refine Exists.elim hI ?_; clear hI; intro u70 hI
    refine Exists.elim hI ?_; clear hI; intro u71 hI
    refine Exists.elim hI ?_; clear hI; intro u72 hI
    refine Exists.elim hI ?_; clear hI; intro u73 hI
    refine Exists.elim hI ?_; clear hI; intro u74 hI
    refine Exists.elim hI ?_; clear hI; intro u75 hI
    refine Exists.elim hI ?_; clear hI; intro u76 hI
    refine Exists.elim hI ?_; clear hI; intro u77 hI
    refine Exists.elim hI ?_; clear hI; intro u78 hI
    refine Exists.elim hI ?_; clear hI; intro u79 hI
    refine Exists.elim hI ?_; clear hI; intro u80 hI
    refine Exists.elim hI ?_; clear hI; intro u81 hI
    refine Exists.elim hI ?_; clear hI; intro u82 hI
    refine Exists.elim hI ?_; clear hI; intro u83 hI
    refine Exists.elim hI ?_; clear hI; intro u84 hI
    refine Exists.elim hI ?_; clear hI; intro u85 hI
    obtain ⟨ds, ⟨turn, bt', Ds, htn, hu0, hu5, hu6, hu7, hu8, hu9, hbx, hVr, hds, hDn, hDs, hDm⟩, ha⟩ := hI
    subst ha hds hu0 hu5 hu6 hu7 hu8 hu9
    have hDlt : ∀ D, D ∈ Ds → D < wr.heap.size := fun D hD => heap_lt (hDm D hD).2
    have hwr := hbx.kw.size
    have c5 := hbx.h5.cell
    have c6 := hbx.h6.cell
    have c7 := hbx.h7.cell
    have c9 := hbx.ht.cell
    have l5 := hbx.h5.lt
    have l6 := hbx.h6.lt
    have l7 := hbx.h7.lt
    have l9 := hbx.ht.lt
    obtain ⟨v8, hv8⟩ := id hbx.h8
    have c8 := hv8.cell
    have f8 := box_free hv8 0
    have l8 := hv8.lt
    have Xhbx := Lib.hid hbx
    have XhVr := Lib.hid hVr
    have XhDn := Lib.hid hDn
    have XhDs := Lib.hid hDs
    have XhDm := Lib.hid hDm
    have XhDlt := Lib.hid hDlt
    have Xhv8 := Lib.hid hv8
    clear hbx hVr hDn hDs hDm hDlt hv8
    by_cases ht2 : turn = 2
    · subst ht2
      have c9' : wr.cell? ⟨bt', 0, none⟩ = some (.int .i64 2) := c9
      clear c9
      gi_wp2
      have hb8 := set_box (.bool true) Xhv8.out
      have kb8 : Keep (fun b => b ≠ b5 + 1 + 1 + 1) wr (wr.setCell ⟨b5 + 1 + 1 + 1, 0, none⟩ (.bool true)) := Keep.setCell _ _ _ (by simp)
      have hne8 : ∀ D, D ∈ Ds → D ≠ b5 + 1 + 1 + 1 := fun D hD e => by
        have h1 := (XhDm.out D hD).2
        have h2 : wr.heap[b5 + 1 + 1 + 1]? = some (.cells #[.bool v8] 4 (0, 0)) := Xhv8.out
        rw [e, h2] at h1
        cases h1
      refine leaves_marks Ds _ XhDn.out (fun D hD => kb8.heap (XhDm.out D hD).2 (hne8 D hD)) (fun w' hK hs => ?_)
      have hc8 : w'.cell? ⟨b5 + 1 + 1 + 1, 0, none⟩ = some (.bool true) := hK.cell (box_cell hb8) (fun h => hne8 _ h rfl)
      refine leaves_nil (v := .bool true) (by simp [results, Try.results15, go_sem, hc8]) ⟨rfl, ?_⟩
      exact (Xhbx.out.kw.trans (kb8.mono fun b hb' _ => by have := Xhbx.out.n8; omega)).trans (hK.mono fun b hb' _ hm => by have := XhDs.out b hm; omega)
    · obtain ⟨tn, htn', htn0, htn1⟩ : ∃ tn : Int, (turn : Int) = tn ∧ 0 ≤ tn ∧ tn < 2 := ⟨_, rfl, by omega, by omega⟩
      rw [htn'] at c9
      obtain ⟨nb, hnb⟩ : ∃ nb, wr.heap.size = nb := ⟨_, rfl⟩
      obtain ⟨W3, hW3⟩ : ∃ W3, wr.alloc (.cells #[.int .i64 0] 3) = W3 := ⟨_, rfl⟩
      have k3 : Keep (fun _ => True) wr W3 := by rw [← hW3]; exact Keep.alloc _ _ _
      have z3 : W3.heap.size = nb + 1 := by rw [← hW3, ← hnb]; simp
      have bn3 : BoxAt W3 nb 3 (.int .i64 0) := by rw [← hW3, ← hnb]; exact new_block _ _
      have hV3 := XhVU.out _ _ XhVr.out (k3.mono fun _ _ _ => trivial)
      have hUw : ∀ b, U b → b < W3.heap.size := fun b hb' => by have := XhUl.out b hb'; omega
      have XhW3 := Lib.hid hW3
      have Xhnb := Lib.hid hnb
      have Xbn3 := Lib.hid bn3
      have XhV3 := Lib.hid hV3
      have XhUw := Lib.hid hUw
      have Xk3 := Lib.hid k3
      clear hW3 hnb bn3 hV3 hUw k3
      gi_wp2
      rw [XhW3.out, Xhnb.out]
      refine range_outerG nilSys () (gf := gf) (lb := lb) rfl Xeg.out Xhit.out (fun _ _ => trivial) (fun γ0 k γ m X args h => h.elim) trivial (fun _ _ => trivial) XhV3.out (fun X Y hv hk => XhVU.out _ _ hv (hk.mono fun b _ hu => XhUw.out b hu))
        (fun k s' X => BoxAt X nb 3 (.int .i64 0) ∧ GoesN b5 (b5 + 1) (b5 + 1 + 1) (b5 + 1 + 1 + 1) bt' (.slice none 0 0) leave turn w X ∧ Keep (fun b => b < W3.heap.size) W3 X) (fun c k s' X => False) ?hI ?hIx ?hIs ?hIxs ?h0 ?round ?done ?stop
      case hI =>
        rintro k s' X Y ⟨h1, h2, h3⟩ hK
        have hb1 := Xhbx.out.h5.lt
        have hb2 := Xhbx.out.h6.lt
        have hb3 := Xhbx.out.h7.lt
        have hb4 := Xhv8.out.lt
        have hb6 := Xhbx.out.ht.lt
        have hz3 := Xk3.out.size
        refine ⟨h1.keep hK (.inl (by omega)), ?_, h3.trans (hK.mono fun b _ hb => .inl hb)⟩
        obtain ⟨v, hv⟩ := h2.h8
        exact ⟨h2.h5.keep hK (.inl (by omega)), h2.h6.keep hK (.inl (by omega)), h2.h7.keep hK (.inl (by omega)), ⟨v, hv.keep hK (.inl (by omega))⟩, h2.ht.keep hK (.inl (by omega)), h2.kw.trans (hK.mono fun b hb' _ => .inl (by omega)), h2.n8⟩
      case hIx => rintro c k s' X Y h; exact h.elim
      case hIs =>
        rintro k s' X s'' Y ⟨h1, h2, h3⟩ hs
        exact ⟨h1.keep hs trivial, h2.keep hs (fun _ _ => trivial), h3.trans (hs.mono fun _ _ _ => trivial)⟩
      case hIxs => rintro c k s' X s'' Y h; exact h.elim
      case h0 => exact ⟨Xbn3.out, Xhbx.out.keep Xk3.out (fun _ _ => trivial), Keep.refl _ _⟩
      case stop => rintro D c k s' W _ _ _ _ _ h; exact h.elim
      case round =>
        rintro l k s' X0 X args hBl hlX hfl hk
        exact absurd hk (Nat.not_lt_zero _)
      case done =>
        rintro D s' W hD hfD hWD hsd ⟨h1, hbx', hkW⟩ hinvW hVW
        have cn := h1.cell
        have ln := h1.lt
        have e5 := hbx'.h5.cell
        have e6 := hbx'.h6.cell
        have e7 := hbx'.h7.cell
        have e9 := hbx'.ht.cell
        rw [htn'] at e9
        have m6 := hbx'.h6.lt
        have m7 := hbx'.h7.lt
        have m9 := hbx'.ht.lt
        have hnbw := Xhnb.out
        obtain ⟨bt2, hbt2⟩ : ∃ bt2, W.heap.size = bt2 := ⟨_, rfl⟩
        obtain ⟨W4, hW4⟩ : ∃ W4, W.alloc (.cells #[.int .i64 (tn + 1)] 3) = W4 := ⟨_, rfl⟩
        have k4 : Keep (fun _ => True) W W4 := by rw [← hW4]; exact Keep.alloc _ _ _
        have t4 : BoxAt W4 bt2 3 (.int .i64 (tn + 1)) := by rw [← hW4, ← hbt2]; exact new_block _ _
        have hbox4 : GoesN b5 (b5 + 1) (b5 + 1 + 1) (b5 + 1 + 1 + 1) bt2 (.slice none 0 0) leave (turn + 1) w W4 := by
          obtain ⟨v, hv⟩ := hbx'.h8
          have hcast : ((turn + 1 : Nat) : Int) = tn + 1 := by rw [← htn']; simp
          exact ⟨hbx'.h5.keep k4 trivial, hbx'.h6.keep k4 trivial, hbx'.h7.keep k4 trivial, ⟨v, hv.keep k4 trivial⟩, by rw [hcast]; exact t4, hbx'.kw.trans (k4.mono fun _ _ _ => trivial), hbx'.n8⟩
        have hV4 := XhVU.out _ _ hVW (k4.mono fun _ _ _ => trivial)
        have hDn' : (D :: Ds).Nodup := List.nodup_cons.2 ⟨fun h => by have := XhDlt.out D h; omega, XhDn.out⟩
        have hDs' : ∀ E, E ∈ D :: Ds → w.heap.size ≤ E := fun E hE => by
          rcases List.mem_cons.1 hE with rfl | hE
          · omega
          · exact XhDs.out E hE
        have hDm' : MarksAt (D :: Ds) (fun _ => False) W4 := fun E hE => by
          rcases List.mem_cons.1 hE with rfl | hE
          · exact ⟨fun h => h, k4.heap hWD trivial⟩
          · exact ⟨fun h => h, k4.heap (hkW.heap (Xk3.out.heap (XhDm.out E hE).2 trivial) (by have := XhDlt.out E hE; omega)) trivial⟩
        have htz : tn = 0 ∨ tn = 1 := by omega
        have hct4 := t4.cell
        clear hnbw k4 hbx' h1 hkW hinvW hVW hWD hfD t4
        have Xhbox4 := Lib.hid hbox4
        have XhV4 := Lib.hid hV4
        have XhDn' := Lib.hid hDn'
        have XhDs' := Lib.hid hDs'
        have XhDm' := Lib.hid hDm'
        have Xhbt2 := Lib.hid hbt2
        have XhW4 := Lib.hid hW4
        clear hbox4 hV4 hDn' hDs' hDm' hbt2 hW4
        have hm1 : boxInt wr (.pointer (some ⟨bt', 0, none⟩)) = tn := boxInt_eq (w := wr) (q := ⟨bt', 0, none⟩) c9
        have hm2 : boxInt W4 (.pointer (some ⟨bt2, 0, none⟩)) = tn + 1 := boxInt_eq (w := W4) (q := ⟨bt2, 0, none⟩) hct4
        clear hct4
        have Xhm1 := Lib.hid hm1
        have Xhm2 := Lib.hid hm2
        clear hm1 hm2
        have hways : (tn = 0 ∧ leave ≤ 0) ∨ (tn = 0 ∧ 0 < leave) ∨ tn = 1 := by omega
        clear htz
        rcases hways with ⟨rfl, hl0⟩ | ⟨rfl, hl0⟩ | rfl
        case' inl =>
          have hW4' : W.alloc (.cells #[.int .i64 1] 3) = W4 := XhW4.out
          have hlvd : decide (0 < leave) = false := decide_eq_false (by omega)
          have hlvd2 : decide (leave ≤ 0) = true := decide_eq_true hl0
          have hlvd3 : ¬ (0 < leave) := by omega
        case' inr.inl =>
          have hW4' : W.alloc (.cells #[.int .i64 1] 3) = W4 := XhW4.out
          have hlvd : decide (0 < leave) = true := decide_eq_true hl0
          have hlvd2 : decide (leave ≤ 0) = false := decide_eq_false (by omega)
          have hlvd3 : ¬ (leave ≤ 0) := by omega
        case' inr.inr => have hW4' : W.alloc (.cells #[.int .i64 2] 3) = W4 := XhW4.out
        all_goals
          have XhW4' := Lib.hid hW4'
          clear hW4'
          gi_wp2
          rw [XhW4'.out, Xhbt2.out]
          refine ⟨⟨_, _, _, _, _, _, _, _, _, _, _, _, _, _, _, _, _, _, _, _, _, _, _, _, _, _, _, _, _, _, _, _, _, _, _, _, _, _, _, _, _, _, _, _, _, _, _, _, _, _, _, _, _, _, _, _, _, _, _, _, _, _, _, _, _, _, _, _, _, _, _, _, _, _, _, _, _, _, _, _, _, _, _, _, _, _, _, ⟨turn + 1, bt2, D :: Ds, by omega, rfl, rfl, rfl, rfl, rfl, rfl, Xhbox4.out, XhV4.out, rfl, XhDn'.out, XhDs'.out, XhDm'.out⟩, rfl⟩, ?_⟩
          simp only [Array.getD_eq_getD_getElem?, List.getElem?_toArray, List.getElem?_cons_succ, List.getElem?_cons_zero, Option.getD_some, Xhm1.out, Xhm2.out]
          omega
end Go.Proofs
