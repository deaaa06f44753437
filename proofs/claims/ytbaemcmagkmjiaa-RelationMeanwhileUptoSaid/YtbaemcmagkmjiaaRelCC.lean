/- Layer 4, the law RelationMeanwhile: the walk. -/
import Derived.Test.YtbaemcmagkmjiaaProg
import Derived.Test.YtbaemcmagkmjiaaRelBB
namespace Go.Proofs
open Go.RowKit Go.Ink
set_option linter.unusedVariables false
set_option linter.unusedSimpArgs false
attribute [local go_sem] Oper.semAt_some

set_option maxRecDepth 100000 in
set_option maxHeartbeats 4000000 in
theorem meanwhile_good (n : Nat) (hn : n ≤ 16) (m : Nat) (v1 v2 vc vk : Value) (tuples more : List (List Int)) (cols key : List Int) (w : World) (h1 : ListsIn m w v1 tuples) (h2 : ListsIn m w v2 more) (hc : IntsIn m w vc cols) (hk : IntsIn m w vk key) (hm : m ≤ w.heap.size)
    (ok1 : ∀ t ∈ tuples, okT t) (ok2 : ∀ t ∈ more, okT t) (okk : okT key) (l1 : tuples.length ≤ 1048576) (l2 : more.length ≤ 1048576) :
    Calls Try.prog 3 #[.int .i64 (n : Int), v1, v2, vc, vk] w fun e w' => e = .returned (.bool true) ∧ Keep (fun b => b < w.heap.size) w w' := by
  refine calls_of Try.func3 rfl ?_
  simp only [Try.ntmps3, List.size_toArray, List.length_cons, List.length_nil, Nat.reduceAdd, Nat.reduceSub, Array.replicate_succ, Array.replicate_zero, List.push_toArray, List.append_toArray, List.nil_append, List.cons_append]
  obtain ⟨a1, c1, rfl, hl1, hc1, he1⟩ := id h1
  obtain ⟨a2, c2, rfl, hl2, hc2, he2⟩ := id h2
  obtain ⟨ac, cc, rfl, hlc, hcc, hec⟩ := id hc
  obtain ⟨ak, ck, rfl, hlk, hck, hek⟩ := id hk
  obtain ⟨W1, hW1⟩ : ∃ W1, (w.alloc (.cells #[.slice a2 more.length c2] 22)).alloc (.cells #[.bool false] 4) = W1 := ⟨_, rfl⟩
  have k1 : Keep (fun _ => True) w W1 := by rw [← hW1]; exact (Keep.alloc _ _ _).trans (Keep.alloc _ _ _)
  have z1 : W1.heap.size = w.heap.size + 1 + 1 := by rw [← hW1]; simp
  have g7 : BoxAt W1 w.heap.size 22 (.slice a2 more.length c2) := by rw [← hW1]; exact old_block (new_block _ _) _
  have g10 : BoxAt W1 (w.heap.size + 1) 4 (.bool false) := by rw [← hW1]; have := new_block (w.alloc (.cells #[.slice a2 more.length c2] 22)) (.cells #[.bool false] 4); rw [World.size_alloc] at this; exact this
  have h1' := lists_keep h1 (k1.mono fun _ _ _ => trivial) (Nat.le_refl _) (w' := W1) (m := m)
  have hfil := filled_any n hn m _ tuples W1 h1' (by omega) ok1 (by omega)
  obtain ⟨b7, hb7⟩ : ∃ b7, w.heap.size = b7 := ⟨_, rfl⟩
  have hk1 : Keep (fun b => b < w.heap.size) w W1 := k1.mono fun _ _ _ => trivial
  have zb : w.heap.size + 1 + 1 ≤ W1.heap.size := by omega
  clear k1 z1 h1'
  have Xh1 := Lib.hid h1
  have Xh2 := Lib.hid h2
  have Xhc := Lib.hid hc
  have Xhk := Lib.hid hk
  have Xhe1 := Lib.hid he1
  have Xhe2 := Lib.hid he2
  have Xhec := Lib.hid hec
  have Xhek := Lib.hid hek
  have Xok1 := Lib.hid ok1
  have Xok2 := Lib.hid ok2
  have Xokk := Lib.hid okk
  have Xg7 := Lib.hid g7
  have Xg10 := Lib.hid g10
  have Xhfil := Lib.hid hfil
  have Xhk1 := Lib.hid hk1
  have Xhb7 := Lib.hid hb7
  clear h1 h2 hc hk he1 he2 hec hek ok1 ok2 okk g7 g10 hfil hk1 hb7
  gi_wp2
  refine ⟨trivial, rfl, (callsIn_wide.2 Xhfil.out).mono ?_⟩
  rintro e W2 ⟨B, P, KM, s, F, Bf, vL, svs, rfl, hbo, hts, hk2, hou⟩
  obtain ⟨bT, hbT⟩ : ∃ bT, W2.heap.size = bT := ⟨_, rfl⟩
  obtain ⟨W3, hW3⟩ : ∃ W3, (W2.alloc (.cells #[.pointer (some ⟨B, 0, none⟩)] 24)).alloc (.cells #[.pointer (some ⟨Bf, 0, none⟩)] 25) = W3 := ⟨_, rfl⟩
  have k3 : Keep (fun _ => True) W2 W3 := by rw [← hW3]; exact (Keep.alloc _ _ _).trans (Keep.alloc _ _ _)
  have gT : BoxAt W3 bT 24 (.pointer (some ⟨B, 0, none⟩)) := by rw [← hW3, ← hbT]; exact old_block (new_block _ _) _
  have gR : BoxAt W3 (bT + 1) 25 (.pointer (some ⟨Bf, 0, none⟩)) := by rw [← hW3, ← hbT]; have := new_block (W2.alloc (.cells #[.pointer (some ⟨B, 0, none⟩)] 24)) (.cells #[.pointer (some ⟨Bf, 0, none⟩)] 25); rw [World.size_alloc] at this; exact this
  have hfr : ∀ b, W2.heap.size ≤ b → Outside s F b := fun b hb => ⟨by
    cases hT : s.tag b with
    | none => rfl
    | some T => have := hbo.rel.own.lt b T hT; omega, fun hF => by have := hbo.lt b hF; omega⟩
  have hst : MwSt w b7 (b7 + 1) bT (bT + 1) B n P KM Bf (.slice a2 more.length c2) s F vL svs W3 := by
    have e7 := Xhb7.out
    refine ⟨hbo.keep k3 (fun _ _ _ => trivial), ?_, ⟨false, ?_⟩, gT, gR, fun b hb => ?_, ?_⟩
    · have := (Xg7.out.keep hk2 (by omega)).keep k3 trivial
      rw [e7] at this; exact this
    · have := (Xg10.out.keep hk2 (by omega)).keep k3 trivial
      rw [e7] at this; exact this
    · rcases hb with h | h | h | h | h
      · exact hou b (by omega)
      · exact hou b (by omega)
      · exact hou b (by omega)
      · exact hfr b (by omega)
      · exact hfr b (by omega)
    · exact (Xhk1.out.trans (hk2.mono fun b _ h => by omega)).trans (k3.mono fun _ _ _ => trivial)
  clear hbo hk2 hou k3 gT gR hfr
  have hW3a : ∀ (o1 o2 : Obj), True := fun _ _ => trivial
  clear hW3a
  have Xhst := Lib.hid hst
  have XhbT := Lib.hid hbT
  have XhW3 := Lib.hid hW3
  clear hst hbT hW3
  rw [Xhb7.out]
  gi_wp2
  rw [XhW3.out, XhbT.out]
  have hRA := (Xhst.out.both.ref.lists (by omega)).keep (w' := W3.drew) (m := W3.heap.size) (Keep.drew _ _) (Nat.le_refl _) (heap_lt Xhst.out.both.ref.box)
  have hst' := Xhst.out.stay (Keep.drew (fun _ => True) W3) (fun _ _ _ => trivial)
  have hS1 : W3.drew.cell? ⟨bT + 1, 0, none⟩ = some (.pointer (some ⟨Bf, 0, none⟩)) ∧ W3.drew.cell? ⟨b7, 0, none⟩ = some (.slice a2 more.length c2) := ⟨hst'.hR.cell, hst'.h7.cell⟩
  have lR := hst'.hR.lt
  have l7 := hst'.h7.lt
  have hsum1 : (s.ts.length : Int) + more.length ≤ 2097152 := by omega
  have hsum0 : (0 : Int) ≤ (s.ts.length : Int) + more.length := by omega
  have XhRA := Lib.hid hRA
  have Xhst' := Lib.hid hst'
  have XhS1 := Lib.hid hS1
  clear hRA hst' hS1
  refine wpIn_onlyN ?_
  refine wpIn_wide.2 ?_
  refine region_hoist rfl (fun W => W.cell? ⟨bT + 1, 0, none⟩ = some (.pointer (some ⟨Bf, 0, none⟩)) ∧ W.cell? ⟨b7, 0, none⟩ = some (.slice a2 more.length c2)) [] ?_
  refine hoist_take (i := 0) (v := ?_) rfl (by kernel_rfl) (by kernel_rfl) (by kernel_rfl) (by kernel_rfl) (fun _ _ _ h => h) XhS1.out (Or.inl ⟨by rfl, ?_⟩) ?_
  rotate_left
  · intro Wq hWq
    obtain ⟨x0, x1⟩ := hWq
    go_simp
    try with_reducible rfl
  try simp only [Act.put, List.getElem_toArray, List.getElem_cons_zero, List.getElem_cons_succ, List.setIfInBounds_toArray, List.set_cons_zero, List.set_cons_succ]
  refine hoist_take (i := 2) (v := ?_) rfl (by kernel_rfl) (by kernel_rfl) (by kernel_rfl) (by kernel_rfl) (fun _ _ _ h => h) XhS1.out (Or.inl ⟨by rfl, ?_⟩) ?_
  rotate_left
  · intro Wq hWq
    obtain ⟨x0, x1⟩ := hWq
    go_simp
    try with_reducible rfl
  try simp only [Act.put, List.getElem_toArray, List.getElem_cons_zero, List.getElem_cons_succ, List.setIfInBounds_toArray, List.set_cons_zero, List.set_cons_succ]
  refine hoist_take (i := 3) (v := ?_) rfl (by kernel_rfl) (by kernel_rfl) (by kernel_rfl) (by kernel_rfl) (fun _ _ _ h => h) XhS1.out (Or.inl ⟨by rfl, ?_⟩) ?_
  rotate_left
  · intro Wq hWq
    obtain ⟨x0, x1⟩ := hWq
    go_simp
    try with_reducible rfl
  try simp only [Act.put, List.getElem_toArray, List.getElem_cons_zero, List.getElem_cons_succ, List.setIfInBounds_toArray, List.set_cons_zero, List.set_cons_succ]
  refine hoist_one (i := 1) rfl (by kernel_rfl) (fun K hK => ?_)
  have XhK0 := Lib.hid hK
  clear hK
  go_wp2_with fail
  refine (refLen_any XhRA.out).mono ?_
  rintro e Wn ⟨rfl, hWn⟩
  have hWn := hWn.symm
  subst hWn
  go_wp2_with fail
  refine XhK0.out _ _ (fun _ => XhS1.out) ?_
  refine hoist_take (i := 4) (v := ?_) rfl (by kernel_rfl) (by kernel_rfl) (by kernel_rfl) (by kernel_rfl) (fun _ _ _ h => h) XhS1.out (Or.inl ⟨by rfl, ?_⟩) ?_
  rotate_left
  · intro Wq hWq
    obtain ⟨x0, x1⟩ := hWq
    go_simp
    try with_reducible rfl
  try simp only [Act.put, List.getElem_toArray, List.getElem_cons_zero, List.getElem_cons_succ, List.setIfInBounds_toArray, List.set_cons_zero, List.set_cons_succ]
  refine hoist_one (i := 5) rfl (by kernel_rfl) (fun K hK => ?_)
  have XhK1 := Lib.hid hK
  clear hK
  go_wp2_with fail
  refine XhK1.out _ _ (fun _ => XhS1.out) ?_
  refine hoist_done (by kernel_rfl) ?_
  refine onlyN_mk ?_
  obtain ⟨to, hto⟩ : ∃ to : Int, (s.ts.length : Int) + more.length = to := ⟨_, rfl⟩
  obtain ⟨W4, hW4⟩ : ∃ W4, W3.drew = W4 := ⟨_, rfl⟩
  rw [hto, hW4]
  have hst4 : MwSt w b7 (b7 + 1) bT (bT + 1) B n P KM Bf (.slice a2 more.length c2) s F vL svs W4 := by rw [← hW4]; exact Xhst'.out
  have hto1 : to ≤ 2097152 := by omega
  have hto0 : (s.ts.length : Int) ≤ to := by omega
  clear XhK0 XhK1 XhS1 XhRA lR l7 hsum1 hsum0 Xhst' hto hW4
  have Xhst4 := Lib.hid hst4
  clear hst4
  gi_wp2
  refine wpIn_loop (fun a' wr => ∃ (u0 u1 u2 u3 u4 u5 u6 u7 u8 u9 u10 u11 u12 u13 u14 u15 u16 u17 u18 u19 u20 u21 u22 u23 u24 u25 u26 u27 u28 u29 u30 u31 u32 u33 u34 u35 u36 u37 u38 u39 u40 u41 u42 u43 u44 u45 u46 u47 u48 u49 u50 u51 u52 u53 u54 u55 u56 u57 u58 u59 u60 u61 u62 u63 u64 u65 u66 u67 u68 u69 u70 u71 u72 u73 u74 u75 u76 u77 u78 u79 u80 u81 u82 u83 u84 u85 u86 u87 u88 u89 u90 u91 u92 u93 u94 u95 u96 u97 u98 u99 u100 u101 u102 u103 u104 u105 u106 u107 u108 u109 u110 u111 u112 u113 u114 u115 u116 u117 u118 u119 u120 u121 u122 u123 u124 u125 u126 u127 u128 u129 u130 u131 u132 u133 u134 : Value) (ds : List Deferred), (∃ (turn : Nat) (Ds : List Nat) (s : RelS) (F : Nat → Prop) (vL : Value) (svs : List Value), turn ≤ 2 ∧ u3 = .slice ac cols.length cc ∧ u4 = .slice ak key.length ck ∧ u7 = .pointer (some ⟨b7, 0, none⟩) ∧ u10 = .pointer (some ⟨b7 + 1, 0, none⟩) ∧ u11 = .pointer (some ⟨bT, 0, none⟩) ∧ u12 = .pointer (some ⟨bT + 1, 0, none⟩) ∧ u14 = .int .i64 to ∧ u15 = .int .i64 (turn : Int) ∧
      MwSt w b7 (b7 + 1) bT (bT + 1) B n P KM Bf (.slice a2 more.length c2) s F vL svs wr ∧ s.ts.length ≤ tuples.length + turn * more.length ∧ (turn = 0 → (s.ts.length : Int) ≤ to) ∧ ds = marks Ds ∧ Ds.Nodup ∧ (∀ D, D ∈ Ds → w.heap.size ≤ D ∧ Outside s F D) ∧ MarksAt Ds (fun _ => False) wr) ∧
      a' = { tmps := #[u0, u1, u2, u3, u4, u5, u6, u7, u8, u9, u10, u11, u12, u13, u14, u15, u16, u17, u18, u19, u20, u21, u22, u23, u24, u25, u26, u27, u28, u29, u30, u31, u32, u33, u34, u35, u36, u37, u38, u39, u40, u41, u42, u43, u44, u45, u46, u47, u48, u49, u50, u51, u52, u53, u54, u55, u56, u57, u58, u59, u60, u61, u62, u63, u64, u65, u66, u67, u68, u69, u70, u71, u72, u73, u74, u75, u76, u77, u78, u79, u80, u81, u82, u83, u84, u85, u86, u87, u88, u89, u90, u91, u92, u93, u94, u95, u96, u97, u98, u99, u100, u101, u102, u103, u104, u105, u106, u107, u108, u109, u110, u111, u112, u113, u114, u115, u116, u117, u118, u119, u120, u121, u122, u123, u124, u125, u126, u127, u128, u129, u130, u131, u132, u133, u134], defers := ds }) (fun a' wr => (2 - intOf (a'.tmps.getD 15 undef)).toNat) ?atStart ?round
  case atStart =>
    exact ⟨_, _, _, _, _, _, _, _, _, _, _, _, _, _, _, _, _, _, _, _, _, _, _, _, _, _, _, _, _, _, _, _, _, _, _, _, _, _, _, _, _, _, _, _, _, _, _, _, _, _, _, _, _, _, _, _, _, _, _, _, _, _, _, _, _, _, _, _, _, _, _, _, _, _, _, _, _, _, _, _, _, _, _, _, _, _, _, _, _, _, _, _, _, _, _, _, _, _, _, _, _, _, _, _, _, _, _, _, _, _, _, _, _, _, _, _, _, _, _, _, _, _, _, _, _, _, _, _, _, _, _, _, _, _, _, [], ⟨0, [], s, F, vL, svs, by omega, rfl, rfl, rfl, rfl, rfl, rfl, rfl, rfl, Xhst4.out, by omega, fun _ => hto0, rfl, List.nodup_nil, by simp, by simp [MarksAt]⟩, rfl⟩
  case round =>
    clear Xhst4 Xhst hto0 hts
    clear svs vL F s
    intro a' wr hI
    refine Exists.elim hI ?_; clear hI; intro u0 hI
    refine Exists.elim hI ?_; clear hI; intro u1 hI
    refine Exists.elim hI ?_; clear hI; intro u2 hI
    refine Exists.elim hI ?_; clear hI; intro u3 hI
    refine Exists.elim hI ?_; clear hI; intro u4 hI
    refine Exists.elim hI ?_; clear hI; intro u5 hI
    refine Exists.elim hI ?_; clear hI; intro u6 hI
    refine Exists.elim hI ?_; clear hI; intro u7 hI
    refine Exists.elim hI ?_; clear hI; intro u8 hI
    refine Exists.elim hI ?_; clear hI; intro u9 hI
    refine Exists.elim hI ?_; clear hI; intro u10 hI
    refine Exists.elim hI ?_; clear hI; intro u11 hI
    refine Exists.elim hI ?_; clear hI; intro u12 hI
    refine Exists.elim hI ?_; clear hI; intro u13 hI
    refine Exists.elim hI ?_; clear hI; intro u14 hI
    refine Exists.elim hI ?_; clear hI; intro u15 hI
    refine Exists.elim hI ?_; clear hI; intro u16 hI
    refine Exists.elim hI ?_; clear hI; intro u17 hI
    refine Exists.elim hI ?_; clear hI; intro u18 hI
    refine Exists.elim hI ?_; clear hI; intro u19 hI
    refine Exists.elim hI ?_; clear hI; intro u20 hI
    refine Exists.elim hI ?_; clear hI; intro u21 hI
    refine Exists.elim hI ?_; clear hI; intro u22 hI
    refine Exists.elim hI ?_; clear hI; intro u23 hI
    refine Exists.elim hI ?_; clear hI; intro u24 hI
    refine Exists.elim hI ?_; clear hI; intro u25 hI
    refine Exists.elim hI ?_; clear hI; intro u26 hI
    refine Exists.elim hI ?_; clear hI; intro u27 hI
    refine Exists.elim hI ?_; clear hI; intro u28 hI
    refine Exists.elim hI ?_; clear hI; intro u29 hI
    refine Exists.elim hI ?_; clear hI; intro u30 hI
    refine Exists.elim hI ?_; clear hI; intro u31 hI
    refine Exists.elim hI ?_; clear hI; intro u32 hI
    refine Exists.elim hI ?_; clear hI; intro u33 hI
    refine Exists.elim hI ?_; clear hI; intro u34 hI
    refine Exists.elim hI ?_; clear hI; intro u35 hI
    refine Exists.elim hI ?_; clear hI; intro u36 hI
    refine Exists.elim hI ?_; clear hI; intro u37 hI
    refine Exists.elim hI ?_; clear hI; intro u38 hI
    refine Exists.elim hI ?_; clear hI; intro u39 hI
    refine Exists.elim hI ?_; clear hI; intro u40 hI
    refine Exists.elim hI ?_; clear hI; intro u41 hI
    refine Exists.elim hI ?_; clear hI; intro u42 hI
    refine Exists.elim hI ?_; clear hI; intro u43 hI
    refine Exists.elim hI ?_; clear hI; intro u44 hI
    refine Exists.elim hI ?_; clear hI; intro u45 hI
    refine Exists.elim hI ?_; clear hI; intro u46 hI
    refine Exists.elim hI ?_; clear hI; intro u47 hI
    refine Exists.elim hI ?_; clear hI; intro u48 hI
    refine Exists.elim hI ?_; clear hI; intro u49 hI
    refine Exists.elim hI ?_; clear hI; intro u50 hI
    refine Exists.elim hI ?_; clear hI; intro u51 hI
    refine Exists.elim hI ?_; clear hI; intro u52 hI
    refine Exists.elim hI ?_; clear hI; intro u53 hI
    refine Exists.elim hI ?_; clear hI; intro u54 hI
    refine Exists.elim hI ?_; clear hI; intro u55 hI
    refine Exists.elim hI ?_; clear hI; intro u56 hI
    refine Exists.elim hI ?_; clear hI; intro u57 hI
    refine Exists.elim hI ?_; clear hI; intro u58 hI
    refine Exists.elim hI ?_; clear hI; intro u59 hI
    refine Exists.elim hI ?_; clear hI; intro u60 hI
    refine Exists.elim hI ?_; clear hI; intro u61 hI
    refine Exists.elim hI ?_; clear hI; intro u62 hI
    refine Exists.elim hI ?_; clear hI; intro u63 hI
    refine Exists.elim hI ?_; clear hI; intro u64 hI
    refine Exists.elim hI ?_; clear hI; intro u65 hI
    refine Exists.elim hI ?_; clear hI; intro u66 hI
    refine Exists.elim hI ?_; clear hI; intro u67 hI
    refine Exists.elim hI ?_; clear hI; intro u68 hI
    refine Exists.elim hI ?_; clear hI; intro u69 hI
    refine Exists.elim hI ?_; clear hI; intro u70 hI
    refine Exists.elim hI ?_; clear hI; intro u71 hI
    refine Exists.elim hI ?_; clear hI; intro u72 hI
    refine Exists.elim hI ?_; clear hI; intro u73 hI
    refine Exists.elim hI ?_; clear hI; intro u74 hI
    refine Exists.elim hI ?_; clear hI; intro u75 hI
    refine Exists.elim hI ?_; clear hI; intro u76 hI
    refine Exists.elim hI ?_; clear hI; intro u77 hI
    refine Exists.elim hI ?_; clear hI; intro u78 hI
    refine Exists.elim hI ?_; clear hI; intro u79 hI
    refine Exists.elim hI ?_; clear hI; intro u80 hI
    refine Exists.elim hI ?_; clear hI; intro u81 hI
    refine Exists.elim hI ?_; clear hI; intro u82 hI
    refine Exists.elim hI ?_; clear hI; intro u83 hI
    refine Exists.elim hI ?_; clear hI; intro u84 hI
    refine Exists.elim hI ?_; clear hI; intro u85 hI
    refine Exists.elim hI ?_; clear hI; intro u86 hI
    refine Exists.elim hI ?_; clear hI; intro u87 hI
    refine Exists.elim hI ?_; clear hI; intro u88 hI
    refine Exists.elim hI ?_; clear hI; intro u89 hI
    refine Exists.elim hI ?_; clear hI; intro u90 hI
    refine Exists.elim hI ?_; clear hI; intro u91 hI
    refine Exists.elim hI ?_; clear hI; intro u92 hI
    refine Exists.elim hI ?_; clear hI; intro u93 hI
    refine Exists.elim hI ?_; clear hI; intro u94 hI
    refine Exists.elim hI ?_; clear hI; intro u95 hI
    refine Exists.elim hI ?_; clear hI; intro u96 hI
    refine Exists.elim hI ?_; clear hI; intro u97 hI
    refine Exists.elim hI ?_; clear hI; intro u98 hI
    refine Exists.elim hI ?_; clear hI; intro u99 hI
    refine Exists.elim hI ?_; clear hI; intro u100 hI
    refine Exists.elim hI ?_; clear hI; intro u101 hI
    refine Exists.elim hI ?_; clear hI; intro u102 hI
    refine Exists.elim hI ?_; clear hI; intro u103 hI
    refine Exists.elim hI ?_; clear hI; intro u104 hI
    refine Exists.elim hI ?_; clear hI; intro u105 hI
    refine Exists.elim hI ?_; clear hI; intro u106 hI
    refine Exists.elim hI ?_; clear hI; intro u107 hI
    refine Exists.elim hI ?_; clear hI; intro u108 hI
    refine Exists.elim hI ?_; clear hI; intro u109 hI
    refine Exists.elim hI ?_; clear hI; intro u110 hI
    refine Exists.elim hI ?_; clear hI; intro u111 hI
    refine Exists.elim hI ?_; clear hI; intro u112 hI
    refine Exists.elim hI ?_; clear hI; intro u113 hI
    refine Exists.elim hI ?_; clear hI; intro u114 hI
    refine Exists.elim hI ?_; clear hI; intro u115 hI
    refine Exists.elim hI ?_; clear hI; intro u116 hI
    refine Exists.elim hI ?_; clear hI; intro u117 hI
    refine Exists.elim hI ?_; clear hI; intro u118 hI
    refine Exists.elim hI ?_; clear hI; intro u119 hI
    refine Exists.elim hI ?_; clear hI; intro u120 hI
    refine Exists.elim hI ?_; clear hI; intro u121 hI
    refine Exists.elim hI ?_; clear hI; intro u122 hI
    refine Exists.elim hI ?_; clear hI; intro u123 hI
    refine Exists.elim hI ?_; clear hI; intro u124 hI
    refine Exists.elim hI ?_; clear hI; intro u125 hI
    refine Exists.elim hI ?_; clear hI; intro u126 hI
    refine Exists.elim hI ?_; clear hI; intro u127 hI
    refine Exists.elim hI ?_; clear hI; intro u128 hI
    refine Exists.elim hI ?_; clear hI; intro u129 hI
    refine Exists.elim hI ?_; clear hI; intro u130 hI
    refine Exists.elim hI ?_; clear hI; intro u131 hI
    refine Exists.elim hI ?_; clear hI; intro u132 hI
    refine Exists.elim hI ?_; clear hI; intro u133 hI
    refine Exists.elim hI ?_; clear hI; intro u134 hI
    obtain ⟨ds, ⟨turn, Ds, s, F, vL, svs, htn, hu3, hu4, hu7, hu10, hu11, hu12, hu14, hu15, hst, hts, hto0, hds, hDn, hDs, hDm⟩, ha⟩ := hI
    subst ha hds hu3 hu4 hu7 hu10 hu11 hu12 hu14 hu15
    have hDlt : ∀ D, D ∈ Ds → D < wr.heap.size := fun D hD => heap_lt (hDm D hD).2
    have Xhst := Lib.hid hst
    have XhDn := Lib.hid hDn
    have XhDs := Lib.hid hDs
    have XhDm := Lib.hid hDm
    have XhDlt := Lib.hid hDlt
    have Xhto0 := Lib.hid hto0
    clear hst hDn hDs hDm hDlt hto0
    by_cases ht2 : turn = 2
    · subst ht2
      have h22 : (((2 : Nat) : Int) < 2) = False := by simp
      gi_wp2
      refine ⟨trivial, rfl, (callsIn_wide.2 (known4_any wr)).mono ?_⟩
      rintro e Wk ⟨rfl, kk⟩
      have hstk := Xhst.out.stay kk (fun _ _ _ => trivial)
      obtain ⟨v10, hv10⟩ := hstk.h10
      have c10 := hv10.cell
      have f10 := box_free hv10 0
      have l10 := hv10.lt
      have kk' := Lib.hid kk
      clear kk
      have Xhstk := Lib.hid hstk
      have Xhv10 := Lib.hid hv10
      clear hstk hv10
      gi_wp2
      have hb8 := set_box (.bool true) Xhv10.out
      have kb8 : Keep (fun b => b ≠ b7 + 1) Wk (Wk.setCell ⟨b7 + 1, 0, none⟩ (.bool true)) := Keep.setCell _ _ _ (by simp)
      have hDk : ∀ D, D ∈ Ds → Wk.heap[D]? = some (.deferred (some [])) := fun D hD => kk'.out.heap (XhDm.out D hD).2 trivial
      have hne8 : ∀ D, D ∈ Ds → D ≠ b7 + 1 := fun D hD e => by
        have h1 := hDk D hD
        have h2 : Wk.heap[b7 + 1]? = some (.cells #[.bool v10] 4 (0, 0)) := Xhv10.out
        rw [e, h2] at h1
        cases h1
      refine leaves_marks Ds _ XhDn.out (fun D hD => kb8.heap (hDk D hD) (hne8 D hD)) (fun w' hK hs => ?_)
      have hc8 : w'.cell? ⟨b7 + 1, 0, none⟩ = some (.bool true) := hK.cell (box_cell hb8) (fun h => hne8 _ h rfl)
      refine leaves_nil (v := .bool true) (by simp [results, Try.results3, go_sem, hc8]) ⟨rfl, ?_⟩
      have e7 := Xhb7.out
      exact (Xhstk.out.keep.trans (kb8.mono fun b _ h => by omega)).trans (hK.mono fun b _ h hm => by have := (XhDs.out b hm).1; omega)
    · have htn2 : turn = 0 ∨ turn = 1 := by omega
      have cT := Xhst.out.hT.cell
      have cR := Xhst.out.hR.cell
      have c7 := Xhst.out.h7.cell
      have lT := Xhst.out.hT.lt
      have lR := Xhst.out.hR.lt
      have l7 := Xhst.out.h7.lt
      clear ht2 htn
      rcases htn2 with rfl | rfl
      · have hwz := Xhst.out.keep.size
        have hiC : IntsIn m wr (.slice none 0 0) ([] : List Int) := (ints_wider (nil_ints wr) (Nat.zero_le m))
        have hiK : IntsIn m wr (.slice none 0 0) ([] : List Int) := (ints_wider (nil_ints wr) (Nat.zero_le m))
        have hmt := refMatch_any (Xhst.out.both.ref.lists (by have := Xhst.out.both.rel.few; omega)) Xhst.out.both.rel.own.len m _ _ ([] : List Int) ([] : List Int) 0 to hiC hiK (by omega)
        have XhiC := Lib.hid hiC
        have XhiK := Lib.hid hiK
        have Xhmt := Lib.hid hmt
        clear hiC hiK hmt
        gi_wp2
        refine ⟨trivial, rfl, (callsIn_wide.2 Xhmt.out).mono ?_⟩
        rintro e W1 ⟨vW, rfl, kW1, hoW⟩
        obtain ⟨pl, hpl⟩ : ∃ pl, matchD n s.ts ([] : List Int) ([] : List Int) 0 to = pl := ⟨_, rfl⟩
        rw [hpl] at hoW
        have hplen : pl.length ≤ 67108864 := by rw [← hpl]; exact Nat.le_trans (matchD_len _ _ _ _ _ _) Xhst.out.both.rel.few
        have hz1 := kW1.size
        have hst1 := Xhst.out.stay kW1 (fun b hb _ => hb)
        have hoWo : ∀ b, vW.ownBlock = some b → Outside s F b ∧ wr.heap.size ≤ b := fun b hb => by
          have h1 := (World.ownsRow.lt hoW b hb).1
          refine ⟨⟨?_, fun hF => by have := Xhst.out.both.lt b hF; omega⟩, h1⟩
          cases hT : s.tag b with
          | none => rfl
          | some T => have := Xhst.out.both.rel.own.lt b T hT; omega
        obtain ⟨aW, cW, rfl⟩ := own_form hoW
        obtain ⟨b18, hb18⟩ : ∃ b18, W1.heap.size = b18 := ⟨_, rfl⟩
        obtain ⟨W2, hW2⟩ : ∃ W2, W1.alloc (.cells #[.slice aW pl.length cW] 23) = W2 := ⟨_, rfl⟩
        have k2 : Keep (fun _ => True) W1 W2 := by rw [← hW2]; exact Keep.alloc _ _ _
        have z2 : W2.heap.size = b18 + 1 := by rw [← hW2, ← hb18]; simp
        have g18 : BoxAt W2 b18 23 (.slice aW pl.length cW) := by rw [← hW2, ← hb18]; exact new_block _ _
        have hst2 := hst1.stay k2 (fun _ _ _ => trivial)
        have hoW2 := own_kept hoW k2 (fun _ _ => trivial)
        obtain ⟨Wd, hWd⟩ : ∃ Wd, W2.drew = Wd := ⟨_, rfl⟩
        have kd : Keep (fun _ => True) W2 Wd := by rw [← hWd]; exact Keep.drew _ _
        have hstd := hst2.stay kd (fun _ _ _ => trivial)
        have g18d := g18.keep kd trivial
        have hoWd := own_kept hoW2 kd (fun _ _ => trivial)
        have kwd : Keep (fun b => b < wr.heap.size) wr Wd := kW1.trans ((k2.mono fun _ _ _ => trivial).trans (kd.mono fun _ _ _ => trivial))
        have hiCd := ints_stay XhiC.out (m := m) (kwd.mono fun b _ h => by omega) (Nat.le_refl _)
        have hiKd := ints_stay XhiK.out (m := m) (kwd.mono fun b _ h => by omega) (Nat.le_refl _)
        have hS1 : Wd.cell? ⟨bT, 0, none⟩ = some (.pointer (some ⟨B, 0, none⟩)) := hstd.hT.cell
        have lTd := hstd.hT.lt
        have zd : Wd.heap.size = b18 + 1 := by rw [← hWd]; simpa using z2
        have hmd : m ≤ Wd.heap.size := by omega
        have hlC := lent_any m _ ([] : List Int) Wd hiCd hmd
        clear kW1 hoW hst1 k2 g18 hst2 hoW2 kd z2
        have Xhpl := Lib.hid hpl
        have XhoWo := Lib.hid hoWo
        have Xhb18 := Lib.hid hb18
        have XhW2 := Lib.hid hW2
        have Xhstd := Lib.hid hstd
        have Xg18d := Lib.hid g18d
        have XhoWd := Lib.hid hoWd
        have Xkwd := Lib.hid kwd
        have XhiCd := Lib.hid hiCd
        have XhiKd := Lib.hid hiKd
        have XhS1 := Lib.hid hS1
        have Xzd := Lib.hid zd
        have XhlC := Lib.hid hlC
        clear hpl hoWo hb18 hW2 hstd g18d hoWd kwd hiCd hiKd hS1 zd hlC
        gi_wp2
        rw [XhW2.out, Xhb18.out]
        subst hWd
        refine wpIn_onlyN ?_
        refine wpIn_wide.2 ?_
        refine region_hoist rfl (fun W => W.cell? ⟨bT, 0, none⟩ = some (.pointer (some ⟨B, 0, none⟩))) [] ?_
        refine hoist_take (i := 0) (v := ?_) rfl (by kernel_rfl) (by kernel_rfl) (by kernel_rfl) (by kernel_rfl) (fun _ _ _ h => h) XhS1.out (Or.inl ⟨by rfl, ?_⟩) ?_
        rotate_left
        · intro Wq hWq
          obtain x0 := hWq
          go_simp
          try with_reducible rfl
        try simp only [Act.put, List.getElem_toArray, List.getElem_cons_zero, List.getElem_cons_succ, List.setIfInBounds_toArray, List.set_cons_zero, List.set_cons_succ]
        refine hoist_take (i := 1) (v := ?_) rfl (by kernel_rfl) (by kernel_rfl) (by kernel_rfl) (by kernel_rfl) (fun _ _ _ h => h) XhS1.out (Or.inl ⟨by rfl, ?_⟩) ?_
        rotate_left
        · intro Wq hWq
          obtain x0 := hWq
          go_simp
          try with_reducible rfl
        try simp only [Act.put, List.getElem_toArray, List.getElem_cons_zero, List.getElem_cons_succ, List.setIfInBounds_toArray, List.set_cons_zero, List.set_cons_succ]
        refine hoist_take (i := 3) (v := ?_) rfl (by kernel_rfl) (by kernel_rfl) (by kernel_rfl) (by kernel_rfl) (fun _ _ _ h => h) XhS1.out (Or.inl ⟨by rfl, ?_⟩) ?_
        rotate_left
        · intro Wq hWq
          obtain x0 := hWq
          go_simp
          try with_reducible rfl
        try simp only [Act.put, List.getElem_toArray, List.getElem_cons_zero, List.getElem_cons_succ, List.setIfInBounds_toArray, List.set_cons_zero, List.set_cons_succ]
        refine hoist_take (i := 5) (v := ?_) rfl (by kernel_rfl) (by kernel_rfl) (by kernel_rfl) (by kernel_rfl) (fun _ _ _ h => h) XhS1.out (Or.inl ⟨by rfl, ?_⟩) ?_
        rotate_left
        · intro Wq hWq
          obtain x0 := hWq
          go_simp
          try with_reducible rfl
        try simp only [Act.put, List.getElem_toArray, List.getElem_cons_zero, List.getElem_cons_succ, List.setIfInBounds_toArray, List.set_cons_zero, List.set_cons_succ]
        refine hoist_one (i := 2) rfl (by kernel_rfl) (fun K hK => ?_)
        have XhK0 := Lib.hid hK
        clear hK
        go_wp2_with fail
        refine XhlC.out.mono ?_
        rintro e W3 ⟨v3, rfl, k3, hL3⟩
        have hS3 := k3.cell XhS1.out lTd
        have XhS3 := Lib.hid hS3
        clear hS3
        have hz3 := k3.size
        have hiK3 := ints_stay XhiKd.out (m := m) (k3.mono fun b _ h => by omega) (Nat.le_refl _)
        have hlK := lent_any m _ ([] : List Int) W3 hiK3 (by omega)
        obtain ⟨g3, cap3, rfl, ho3⟩ := id hL3
        clear ho3
        have Xk3 := Lib.hid k3
        have XhL3 := Lib.hid hL3
        have XhlK := Lib.hid hlK
        have XhiK3 := Lib.hid hiK3
        clear k3 hL3 hlK hiK3
        go_wp2_with fail
        refine XhK0.out _ _ (fun _ => XhS3.out) ?_
        refine hoist_one (i := 4) rfl (by kernel_rfl) (fun K hK => ?_)
        have XhK1 := Lib.hid hK
        clear hK
        go_wp2_with fail
        refine XhlK.out.mono ?_
        rintro e W4 ⟨v4, rfl, k4, hL4⟩
        have hS4 := k4.cell XhS3.out (by simp only; omega)
        have hz4 := k4.size
        have hL34 := XhL3.out.keep k4 (fun b _ hb => hb)
        have hiC4 := ints_wider (LentIn.ints (l := ([] : List Int)) hL34 (by simp)) (Nat.le_refl _)
        have hiK4 := ints_wider (LentIn.ints (l := ([] : List Int)) hL4 (by simp)) (Nat.le_refl _)
        have hmk := relMatch_any W4 B W4.heap.size _ _ ([] : List Int) ([] : List Int) 0 to hiC4 hiK4 (Nat.le_refl _)
        obtain ⟨g4, cap4, rfl, ho4⟩ := id hL4
        have kd4 : Keep (fun b => b < W2.drew.heap.size) W2.drew W4 := Xk3.out.trans (k4.mono fun b _ h => by omega)
        clear ho4 hL34 hiC4 hiK4
        have Xk4 := Lib.hid k4
        have XhL4 := Lib.hid hL4
        have XhS4 := Lib.hid hS4
        have Xhmk := Lib.hid hmk
        have Xkd4 := Lib.hid kd4
        clear k4 hL4 hS4 hmk kd4
        go_wp2_with fail
        refine XhK1.out _ _ (fun _ => XhS4.out) ?_
        refine hoist_one (i := 6) rfl (by kernel_rfl) (fun K hK => ?_)
        have XhK2 := Lib.hid hK
        clear hK
        go_wp2_with fail
        refine Xhmk.out.mono ?_
        rintro e W5 ⟨bR', bL', bK', bT', bF', vl', vk', rfl, k5, hMV⟩
        have hS5 := k5.cell XhS4.out trivial
        have Xk5 := Lib.hid k5
        have XhMV := Lib.hid hMV
        have XhS5 := Lib.hid hS5
        clear k5 hMV hS5
        go_wp2_with fail
        refine XhK2.out _ _ (fun _ => XhS5.out) ?_
        refine hoist_one (i := 7) rfl (by kernel_rfl) (fun K hK => ?_)
        have XhK3 := Lib.hid hK
        clear hK
        go_wp2_with fail
        refine XhK3.out _ _ (fun _ => XhS5.out) ?_
        refine hoist_done (by kernel_rfl) ?_
        refine onlyN_mk ?_
        clear XhK0 XhK1 XhK2 XhK3 XhS1 XhS3 XhS4 XhlC XhlK XhL3 XhL4 Xhmk Xhmt XhiK3
        have kd5 : Keep (fun b => b < W2.drew.heap.size) W2.drew W5 := Xkd4.out.trans (Xk5.out.mono fun _ _ _ => trivial)
        have zd5 := kd5.size
        have hst5 := Xhstd.out.stay kd5 (fun b hb _ => hb)
        have g185 := Xg18d.out.keep kd5 (by have := Xg18d.out.lt; simpa using this)
        have hoW5 := own_kept XhoWd.out kd5 (fun b hb => (World.ownsRow.lt XhoWd.out b hb).2)
        have z45 := Xk5.out.size
        have hDm5 : ∀ E, E ∈ Ds → W5.heap[E]? = some (.deferred (some [])) := fun E hE => kd5.heap (Xkwd.out.heap (XhDm.out E hE).2 (XhDlt.out E hE)) (Nat.lt_of_lt_of_le (XhDlt.out E hE) Xkwd.out.size)
        clear kd5
        have XhDm5 := Lib.hid hDm5
        have Xhst5 := Lib.hid hst5
        have Xg185 := Lib.hid g185
        have XhoW5 := Lib.hid hoW5
        clear hDm5 hst5 g185 hoW5
        have cT5 := Xhst5.out.hT.cell
        have lT5 := Xhst5.out.hT.lt
        have hall := relAll_any W5 B 0 to
        have Xhall := Lib.hid hall
        clear hall
        gi_wp2
        refine ⟨trivial, rfl, (callsIn_wide.2 Xhall.out).mono ?_⟩
        rintro e W6 ⟨rfl, k6, hAV⟩
        have hst6 := Xhst5.out.stay k6 (fun _ _ _ => trivial)
        have g186 := Xg185.out.keep k6 trivial
        have hoW6 := own_kept XhoW5.out k6 (fun _ _ => trivial)
        have z6 := k6.size
        have hDm6 : ∀ E, E ∈ Ds → W6.heap[E]? = some (.deferred (some [])) := fun E hE => k6.heap (XhDm5.out E hE) trivial
        obtain ⟨gf, hgf⟩ : ∃ gf, gf = 35 := ⟨_, rfl⟩
        obtain ⟨lb, hlb⟩ : ∃ lb : Array Value, #[.pointer (some ⟨W5.heap.size + 1, 0, none⟩), .pointer (some ⟨W5.heap.size + 2, 0, none⟩), .pointer (some ⟨W5.heap.size, 0, none⟩)] = lb := ⟨_, rfl⟩
        have hnil : ∀ W, (binOp .eql 32 (.func (.func 35) #[] lb) .nilFunc).run Try.prog W = .ok (.bool false) W := fun W => run_eql_func_nil Try.underlying32 W _ _ _
        rw [hlb]
        obtain ⟨N, hNd⟩ : ∃ N : RelS → Nat, N = allN 0 to := ⟨_, rfl⟩
        obtain ⟨A, hAd⟩ : ∃ A : RelS → Nat → RelS → Nat → World → Array Value → Prop, A = (fun s0 k s m X args => ∃ t, s0.ts[(0 : Int).toNat + k]? = some t ∧ Told ((0 : Int).toNat + k) t m X args) := ⟨_, rfl⟩
        obtain ⟨V, hVd⟩ : ∃ V : World → Prop, V = AllV (W5.heap.size + 1) (W5.heap.size + 2) W5.heap.size 0 to B := ⟨_, rfl⟩
        obtain ⟨U, hUd⟩ : ∃ U : Nat → Prop, U = fun b => b = W5.heap.size + 1 ∨ b = W5.heap.size + 2 ∨ b = W5.heap.size := ⟨_, rfl⟩
        have hit : IterG Try.prog 35 lb (relSys B n P KM) N A V U := by
          rw [← hlb, hNd, hAd, hVd]
          exact iterG_U (relAll_iter B n P KM (W5.heap.size + 1) (W5.heap.size + 2) W5.heap.size 0 to) (fun b h => h.elim)
        have eg := enters Try.func35 (by kernel_rfl) rfl
        have hV6 : V W6 := by rw [hVd]; exact hAV
        have hVU : ∀ X Y, V X → Keep U X Y → V Y := fun X Y hv hk => by
          rw [hVd] at hv ⊢
          rw [hUd] at hk
          exact hv.keep hk (.inl rfl) (.inr (.inl rfl)) (.inr (.inr rfl))
        have hU6 : ∀ b, U b → W5.heap.size ≤ b ∧ b < W6.heap.size := fun b hb => by
          have h1 := heap_lt hAV.1
          have h2 := heap_lt hAV.2.1
          have h3 := heap_lt hAV.2.2
          rw [hUd] at hb
          rcases hb with h | h | h <;> omega
        have hplr : pl = List.range s.ts.length := by rw [← Xhpl.out]; exact match_all (Xhto0.out trivial)
        have hNs : N s = pl.length := by
          rw [hNd, hplr, List.length_range]
          have := Xhto0.out trivial
          unfold allN
          omega
        have hA : ∀ k s' m X args, A s k s' m X args → ∃ i t, pl[k]? = some i ∧ s.ts[i]? = some t ∧ Told i t m X args := fun k s' m X args h => by
          rw [hAd] at h
          obtain ⟨t, ht, hto⟩ := h
          have e0 : (0 : Int).toNat + k = k := by simp
          rw [e0] at ht hto
          exact ⟨k, t, by rw [hplr]; exact List.getElem?_range (List.getElem?_eq_some_iff.1 ht).1, ht, hto⟩
        have hAs : ∀ s0 k s' m X args, A s0 k s' m X args → args.size = 2 := fun s0 k s' m X args h => by
          rw [hAd] at h
          obtain ⟨t, _, v, rfl, _⟩ := h
          rfl
        clear k6 hAV hplr hNd hAd hVd hUd hgf cT5 lT5
        have XhDm6 := Lib.hid hDm6
        have Xhst6 := Lib.hid hst6
        have Xg186 := Lib.hid g186
        have XhoW6 := Lib.hid hoW6
        have Xhit := Lib.hid hit
        have Xeg := Lib.hid eg
        have XhV6 := Lib.hid hV6
        have XhVU := Lib.hid hVU
        have XhU6 := Lib.hid hU6
        have XhNs := Lib.hid hNs
        have XhA := Lib.hid hA
        have XhAs := Lib.hid hAs
        have Xhlb := Lib.hid hlb
        clear hDm6 hst6 g186 hoW6 hit eg hV6 hVU hU6 hNs hA hAs hlb
        obtain ⟨b20, hb20⟩ : ∃ b20, W6.heap.size = b20 := ⟨_, rfl⟩
        obtain ⟨W7, hW7⟩ : ∃ W7, W6.alloc (.cells #[.int .i64 0] 3) = W7 := ⟨_, rfl⟩
        have k7 : Keep (fun _ => True) W6 W7 := by rw [← hW7]; exact Keep.alloc _ _ _
        have z7 : W7.heap.size = b20 + 1 := by rw [← hW7, ← hb20]; simp
        have g20 : BoxAt W7 b20 3 (.int .i64 ((0 : Nat) : Int)) := by rw [← hW7, ← hb20]; exact new_block _ _
        have hst7 := Xhst6.out.stay k7 (fun _ _ _ => trivial)
        have g187 := Xg186.out.keep k7 trivial
        have hoW7 := own_kept XhoW6.out k7 (fun _ _ => trivial)
        have hV7 := XhVU.out _ _ XhV6.out (k7.mono fun _ _ _ => trivial)
        have hfr7 : ∀ b, wr.heap.size ≤ b → Outside s F b := fun b hb => ⟨by
          cases hT : s.tag b with
          | none => rfl
          | some T => have := Xhst.out.both.rel.own.lt b T hT; omega, fun hF => by have := Xhst.out.both.lt b hF; omega⟩
        have hz15 : wr.heap.size ≤ W5.heap.size := by have := Xzd.out; have := Xhb18.out; omega
        have hb18w : wr.heap.size ≤ b18 := by have := Xhb18.out; omega
        obtain ⟨Q, hQd⟩ : ∃ Q : Nat → Prop, Q = fun b => b = b18 ∨ Value.ownBlock (.slice aW pl.length cW) = some b ∨ b ∈ Ds ∨ U b ∨ b < w.heap.size ∨ b = b7 ∨ b = b7 + 1 ∨ b = bT ∨ b = bT + 1 := ⟨_, rfl⟩
        have hQo : ∀ b, Q b → Outside s F b ∧ b < W7.heap.size ∧ b ≠ b20 := fun b hb => by
          rw [hQd] at hb
          have e20 := hb20
          obtain ⟨v10, hv10⟩ := hst7.h10
          have q1 := Xg186.out.lt
          rcases hb with h | h | h | h | h | h | h | h | h
          · subst h; exact ⟨hfr7 _ hb18w, by omega, by omega⟩
          · have h1 := XhoWo.out b h
            have h2 := (World.ownsRow.lt XhoW6.out b h).2
            exact ⟨h1.1, by omega, by omega⟩
          · have h1 := XhDlt.out b h
            exact ⟨(XhDs.out b h).2, by omega, by omega⟩
          · have h1 := XhU6.out b h
            exact ⟨hfr7 _ (by omega), by omega, by omega⟩
          · have := Xhst6.out.keep.size
            exact ⟨Xhst.out.out b (.inl h), by omega, by omega⟩
          · have := Xhst6.out.h7.lt
            exact ⟨Xhst.out.out b (by simp [h]), by omega, by omega⟩
          · obtain ⟨v, hv⟩ := Xhst6.out.h10
            have := hv.lt
            exact ⟨Xhst.out.out b (by simp [h]), by omega, by omega⟩
          · have := Xhst6.out.hT.lt
            exact ⟨Xhst.out.out b (by simp [h]), by omega, by omega⟩
          · have := Xhst6.out.hR.lt
            exact ⟨Xhst.out.out b (by simp [h]), by omega, by omega⟩
        have hUQ : ∀ b, U b → Q b := fun b hb => by rw [hQd]; simp [hb]
        have h0 : MwRd W7 Q b20 n Bf s.ts.length more.length s 0 s W7 := by
          have e20 := hb20
          exact ⟨⟨F, vL, svs, hst7.both.ref, fun b hF => ⟨hst7.both.apart b hF, hst7.both.lt b hF, .inl (hst7.both.lt b hF)⟩, fun b hq => (hQo b hq).1.2, (hfr7 b20 (by omega)).2⟩, g20, ⟨(hfr7 b20 (by omega)).1, fun b hq => (hQo b hq).1.1⟩, Keep.refl _ _, by omega, ⟨[], by simp⟩⟩
        have hinv7 : RelInv B n P KM s W7 := hst7.both.rel
        have hfree7 : ∀ b, W7.heap.size ≤ b → s.tag b = none := fun b hb => by
          have e20 := hb20
          exact (hfr7 b (by omega)).1
        have hDm7 : ∀ E, E ∈ Ds → W7.heap[E]? = some (.deferred (some [])) := fun E hE => k7.heap (XhDm6.out E hE) trivial
        clear k7
        have XhDm7 := Lib.hid hDm7
        have Xhb20 := Lib.hid hb20
        have XhW7 := Lib.hid hW7
        have Xhst7 := Lib.hid hst7
        have Xg187 := Lib.hid g187
        have XhoW7 := Lib.hid hoW7
        have XhV7 := Lib.hid hV7
        have Xhfr7 := Lib.hid hfr7
        have XhQd := Lib.hid hQd
        have XhQo := Lib.hid hQo
        have XhUQ := Lib.hid hUQ
        have Xh0 := Lib.hid h0
        have Xhinv7 := Lib.hid hinv7
        have Xhfree7 := Lib.hid hfree7
        have Xg20 := Lib.hid g20
        clear hDm7 hb20 hW7 hst7 g187 hoW7 hV7 hfr7 hQd hQo hUQ h0 hinv7 hfree7 g20
        gi_wp2
        rw [XhW7.out, Xhb20.out]
        refine range_outerG (relSys B n P KM) s (gf := 35) (lb := lb) rfl Xeg.out Xhit.out (fun b hb => (XhQo.out b (XhUQ.out b hb)).1.1) (fun γ0 k γ m X args h => XhAs.out _ _ _ _ _ _ h) Xhinv7.out Xhfree7.out XhV7.out (fun X Y hv hk => XhVU.out _ _ hv (hk.mono fun b _ hu => (XhQo.out b (XhUQ.out b hu)).2.1))
          (fun k s' X => MwRd W7 Q b20 n Bf s.ts.length more.length s k s' X) (fun c k s' X => False) ?hI ?hIx ?hIs ?hIxs ?h0 ?round ?done ?stop
        case hI =>
          intro k s' X Y h hK
          exact h.on (fun b hq => (XhQo.out b hq).2.1) (by omega) hK
        case hIx => intro c k s' X Y h; exact h.elim
        case hIs =>
          intro k s' X s'' Y h hs
          exact h.it (fun b hq => (XhQo.out b hq).2.1) hs
        case hIxs => intro c k s' X s'' Y h; exact h.elim
        case h0 => exact Xh0.out
        case stop => intro D c k s' W _ _ _ _ _ h; exact h.elim
        case round =>
          rintro l k s' X0 X args hBl hlX hfl hk hR0 hist hinvX hVX hsz hAr
          obtain ⟨i, t, hpi, hti, v', rfl, hv1, hv2⟩ := XhA.out k s' _ X args hAr
          have hX := hR0.it (fun b hq => (XhQo.out b hq).2.1) hist
          obtain ⟨F', vL', svs', r1, r2, r3, r4⟩ := hR0.ref
          have hXz : X0.heap.size ≤ X.heap.size := hist.keep.size
          have hv0 : ∀ b, v'.ownBlock = some b → X0.heap.size ≤ b ∧ b < X.heap.size := fun b hb' => World.ownsRow.lt hv1 b hb'
          have hrefX := r1.keep hist.keep (fun b hF _ => (r2 b hF).1)
          have r2X : ∀ b, F' b → s'.tag b = none ∧ b < X.heap.size ∧ (b < W7.heap.size ∨ W7.heap.size + 2 ≤ b) := fun b hF => ⟨(r2 b hF).1, by have := (r2 b hF).2.1; omega, (r2 b hF).2.2⟩
          have hgF : ∀ b, v'.ownBlock = some b → ¬ F' b := fun b hb hF => by have := (r2 b hF).2.1; have := (hv0 b hb).1; omega
          obtain ⟨at', ct', rfl⟩ := own_form hv1
          clear r1 r2 hist hAr hR0
          have Xhpi := Lib.hid hpi
          have Xhti := Lib.hid hti
          have Xhv1 := Lib.hid hv1
          have XhX := Lib.hid hX
          have XhrefX := Lib.hid hrefX
          have Xr2X := Lib.hid r2X
          have Xr3 := Lib.hid r3
          have Xr4 := Lib.hid r4
          have Xhfl := Lib.hid hfl
          have XhinvX := Lib.hid hinvX
          have XhVX := Lib.hid hVX
          have Xhv0 := Lib.hid hv0
          have Xhk := Lib.hid hk
          have XhgF := Lib.hid hgF
          clear hpi hti hv1 hX hrefX r2X r3 r4 hfl hinvX hVX hv0 hk hgF
          gi_wp2
          refine ⟨Keep.refl _ _, fun Y hY hYs hYl => ?_⟩
          have hzY : Y.heap.size = X.heap.size := hYs
          have hll : l = W7.heap.size + 1 := Xhfl.out.2.2
          have hQl : ∀ b, Q b → b ≠ l := fun b hq => by have := (XhQo.out b hq).2.1; omega
          have hQt : ∀ b, (b = b18 ∨ Value.ownBlock (.slice aW pl.length cW) = some b ∨ b ∈ Ds ∨ U b ∨ b < w.heap.size ∨ b = b7 ∨ b = b7 + 1 ∨ b = bT ∨ b = bT + 1) → Q b := fun b hb => by rw [XhQd.out]; exact hb
          have kQY : Keep Q W7 Y := XhX.out.keep.trans (hY.mono fun b _ hq => hQl b hq)
          have hrefY := XhrefX.out.keep hY (fun b hF _ => by have := (Xr2X.out b hF).2.2; omega)
          have hinvY : RelInv B n P KM s' Y := RelInv.keep XhinvX.out (hY.mono fun b _ h e => by subst e; exact h Xhfl.out.1)
          have hboY : Both B n P KM s' F' Bf vL' svs' Y := ⟨hinvY, hrefY, fun b hF => (Xr2X.out b hF).1, fun b hF => by rw [hzY]; exact (Xr2X.out b hF).2.1⟩
          have hVY := XhVU.out _ _ XhVX.out (hY.mono fun b _ hu => hQl b (XhUQ.out b hu))
          have b20Y := XhX.out.box.keep hY (by omega)
          have b18Y := Xg187.out.keep kQY (hQt _ (by simp))
          have bTY := Xhst7.out.hT.keep kQY (hQt _ (by simp))
          have bRY := Xhst7.out.hR.keep kQY (hQt _ (by simp))
          have b7Y := Xhst7.out.h7.keep kQY (hQt _ (by simp))
          have hpY := own_kept XhoW7.out kQY (fun b hb => hQt b (.inr (.inl hb)))
          have hvY := own_kept Xhv1.out hY (fun b hb' => by have := (Xhv0.out b hb').1; omega)
          obtain ⟨us, hus⟩ := XhX.out.pre
          have htl : s'.ts[i]? = some t := by rw [hus, List.getElem?_append_left (List.getElem?_eq_some_iff.1 Xhti.out).1]; exact Xhti.out
          have hfew' := hinvY.few
          have hra := hrefY.lists (by omega)
          obtain ⟨aL, cL, rfl, hlL, hcL, heL⟩ := id hra.l
          obtain ⟨bL, oL, rfl, hbL, sv, hsvc, hsvi⟩ := heL i t htl
          have hil := (List.getElem?_eq_some_iff.1 htl).1
          have hkl := (List.getElem?_eq_some_iff.1 Xhpi.out).1
          obtain ⟨gp, hgp⟩ : ∃ gp, aW = some ⟨gp, 0, none⟩ := by
            rcases hpY.2 with ⟨_, e2⟩ | ⟨g, cap, cur, e1, _⟩
            · omega
            · injection e1 with q; exact ⟨g, q⟩
          have hpY' := hpY
          rw [hgp] at hpY'
          have cpk := own_elem hpY' k (natV i) (by rw [List.getElem?_map, Xhpi.out]; rfl)
          have cRL := cells_of_block hrefY.box 1 _ rfl
          simp only [Nat.zero_add, Nat.mul_one] at cRL hsvc
          have lenk := XhX.out.len
          have htsn : s.ts.length ≤ tuples.length + 2 * more.length := by omega
          have hfewA : s'.ts.length < 67108864 := by omega
          have fin : ∀ (s2 : RelS) (F2 : Nat → Prop) (vL2 : Value) (svs2 : List Value) (Y2 : World), Both B n P KM s2 F2 Bf vL2 svs2 Y2 → BothOn s' F' Y.heap.size s2 F2 → Keep (Outside s' F') Y Y2 → s2.ts.length ≤ s.ts.length + min (k + 1) more.length → (∃ us, s2.ts = s.ts ++ us) →
              bodyEndG (relSys B n P KM) W7.heap.size l X.heap.size V s' Y (Y2.setCell ⟨b20, 0, none⟩ (.int .i64 ((k : Int) + 1))) (fun s'' => MwRd W7 Q b20 n Bf s.ts.length more.length s (k + 1) s'' (Y2.setCell ⟨b20, 0, none⟩ (.int .i64 ((k : Int) + 1)))) ∧ BoxAt Y2 b20 3 (.int .i64 (k : Int)) := by
            intro s2 F2 vL2 svs2 Y2 hb2 ho2 hk2 hl2' hp2
            have o20 : Outside s' F' b20 := ⟨XhX.out.fr.1, Xr4.out⟩
            have hQO : ∀ b, Q b → Outside s' F' b := fun b hq => ⟨XhX.out.fr.2 b hq, Xr3.out b hq⟩
            have hz2 := hk2.size
            have o20' := ho2.out b20Y.lt o20
            have g20' := b20Y.keep hk2 o20
            have kZ : Keep (fun b => b ≠ b20) Y2 (Y2.setCell ⟨b20, 0, none⟩ (.int .i64 ((k : Int) + 1))) := Keep.setCell _ _ _ (by simp)
            have kYZ : Keep (fun b => Outside s' F' b ∧ b ≠ b20) Y (Y2.setCell ⟨b20, 0, none⟩ (.int .i64 ((k : Int) + 1))) := (hk2.mono fun b _ h => h.1).trans (kZ.mono fun b _ h => h.2)
            refine ⟨⟨s2, ?_, ?_, ho2.bd.mono (by omega), ?_, ?_⟩, g20'⟩
            · exact RelInv.keep hb2.rel (kZ.mono fun b _ h e => by subst e; exact h o20'.1)
            · exact XhVU.out _ _ hVY (kYZ.mono fun b _ hu => ⟨hQO b (XhUQ.out b hu), (XhQo.out b (XhUQ.out b hu)).2.2⟩)
            · refine kYZ.mono fun b _ h => ⟨⟨?_, fun hF => by have := (Xr2X.out b hF).2.2; omega⟩, by omega⟩
              by_cases hbl : b = l
              · subst hbl; exact Xhfl.out.1
              · have : b = W7.heap.size := by omega
                subst this; exact Xhfl.out.2.1
            · refine ⟨⟨F2, vL2, svs2, hb2.ref.keep kZ (fun b hF _ e => by subst e; exact o20'.2 hF), fun b hF => ⟨hb2.apart b hF, Nat.lt_of_lt_of_le (hb2.lt b hF) kZ.size, ?_⟩, fun b hq => (ho2.out (Nat.lt_of_lt_of_le (XhQo.out b hq).2.1 kQY.size) (hQO b hq)).2, o20'.2⟩, ?_, ⟨o20'.1, fun b hq => (ho2.out (Nat.lt_of_lt_of_le (XhQo.out b hq).2.1 kQY.size) (hQO b hq)).1⟩, kQY.trans (kYZ.mono fun b _ hq => ⟨hQO b hq, (XhQo.out b hq).2.2⟩), hl2', hp2⟩
              · rcases ho2.new b hF with h | h
                · exact (Xr2X.out b h).2.2
                · exact .inr (by omega)
              · have : ((k + 1 : Nat) : Int) = (k : Int) + 1 := by simp
                rw [this]; exact set_box _ g20'
          have hvi : IntsIn Y.heap.size Y (.slice at' t.length ct') t := own_ints hvY hv2
          obtain ⟨aS, cS, rfl, _, _, _⟩ := id hsvi
          have hsame := sameL_any Y.heap.size _ _ t t Y hvi hsvi (Nat.le_refl _)
          rw [decide_eq_true (Eq.refl t)] at hsame
          have c20 := b20Y.cell
          have l20 := b20Y.lt
          have c18 := b18Y.cell
          have l18 := b18Y.lt
          rw [hgp] at c18
          have cRb := bRY.cell
          have lRb := bRY.lt
          have lRB := heap_lt hrefY.box
          have lgp : gp < Y.heap.size := World.block_lt_of_cell? _ _ cpk
          have lbL : bL < Y.heap.size := World.block_lt_of_cell? _ _ hsvc
          have hkl1 : (k : Int) < pl.length := by omega
          have hk0 : (0 : Int) ≤ k := by omega
          have hi0 : (0 : Int) ≤ i := by omega
          have hil1 : (i : Int) < s'.ts.length := by omega
          have hk1 : (k : Int) + 1 ≤ 67108864 := by omega
          have hdk : decide (pl.length ≤ k) = false := decide_eq_false (by omega)
          have hdk2 : decide ((pl.length : Int) ≤ k) = false := decide_eq_false (by omega)
          clear hvi hsvi hra heL hlL hcL hpY hpY' htl hus
          have Xhsame := Lib.hid hsame
          have XhY := Lib.hid hY
          have XhYs := Lib.hid hYs
          have XhYl := Lib.hid hYl
          have XhzY := Lib.hid hzY
          have Xhll := Lib.hid hll
          have XhQl := Lib.hid hQl
          have XhQt := Lib.hid hQt
          have XkQY := Lib.hid kQY
          have XhrefY := Lib.hid hrefY
          have XhinvY := Lib.hid hinvY
          have XhboY := Lib.hid hboY
          have XhVY := Lib.hid hVY
          have Xb20Y := Lib.hid b20Y
          have Xb18Y := Lib.hid b18Y
          have XbTY := Lib.hid bTY
          have XbRY := Lib.hid bRY
          have Xb7Y := Lib.hid b7Y
          have XhvY := Lib.hid hvY
          have Xfin := Lib.hid fin
          have Xhgp := Lib.hid hgp
          have Xlenk := Lib.hid lenk
          clear hsame hY hYs hYl hzY hll hQl hQt kQY hrefY hinvY hboY hVY b20Y b18Y bTY bRY b7Y hvY fin hgp lenk
          gi_wp2
          refine ⟨trivial, rfl, (CallsIn.inRound l (callsIn_wide.2 Xhsame.out)).mono ?_⟩
          rintro e Y1 ⟨rfl, kS⟩
          clear c20 l20 c18 l18 cRb lRb lRB lgp lbL cpk cRL hsvc
          have XkS := Lib.hid kS
          clear kS
          gi_wp2
          have kYd : Keep (fun _ => True) Y Y1.drew := XkS.out.trans (Keep.drew _ _)
          have hboD := XhboY.out.keep kYd (fun _ _ _ => trivial)
          have b20D := Xb20Y.out.keep kYd trivial
          have bTD := XbTY.out.keep kYd trivial
          have bRD := XbRY.out.keep kYd trivial
          have b7D := Xb7Y.out.keep kYd trivial
          have kwD : Keep (fun b => b < w.heap.size) w Y1.drew := (Xhst7.out.keep.trans (XkQY.out.mono fun b _ h => XhQt.out b (by simp [h]))).trans (kYd.mono fun _ _ _ => trivial)
          have hQO : ∀ b, Q b → Outside s' F' b := fun b hq => ⟨XhX.out.fr.2 b hq, Xr3.out b hq⟩
          have o20 : Outside s' F' b20 := ⟨XhX.out.fr.1, Xr4.out⟩
          have o7 : Outside s' F' b7 := hQO _ (XhQt.out _ (by simp))
          have oT : Outside s' F' bT := hQO _ (XhQt.out _ (by simp))
          have oR : Outside s' F' (bT + 1) := hQO _ (XhQt.out _ (by simp))
          have hwlt : w.heap.size ≤ Y1.drew.heap.size := kwD.size
          have zYD : Y.heap.size ≤ Y1.drew.heap.size := kYd.size
          refine wpIn_onlyN ?_
          by_cases hkm : k < more.length
          · obtain ⟨u, hu⟩ : ∃ u, more[k]? = some u := ⟨_, List.getElem?_eq_getElem hkm⟩
            obtain ⟨bE, oE, rfl, hbE, sve, hec0, hei0⟩ := Xhe2.out k u hu
            have hecD := kwD.cell hec0 (by simp only; omega)
            rw [Nat.mul_one] at hecD
            have heiD := ints_stay hei0 kwD hm
            obtain ⟨aE, cE, rfl, _, _, _⟩ := id heiD
            have oE' : Outside s' F' bE := hQO _ (XhQt.out _ (by simp [show bE < w.heap.size by omega]))
            have had := adds_any hboD (by omega) m _ u heiD (by omega) (fun b hb => hQO _ (XhQt.out _ (by simp [show b < w.heap.size by omega]))) (Xok2.out u (List.mem_of_getElem? hu))
            have hS : Y1.drew.cell? ⟨b20, 0, none⟩ = some (.int .i64 (k : Int)) ∧ Y1.drew.cell? ⟨b7, 0, none⟩ = some (.slice (some ⟨bE, oE, none⟩) more.length c2) ∧ Y1.drew.cell? ⟨bT, 0, none⟩ = some (.pointer (some ⟨B, 0, none⟩)) ∧ Y1.drew.cell? ⟨bT + 1, 0, none⟩ = some (.pointer (some ⟨Bf, 0, none⟩)) ∧ Y1.drew.cell? ⟨bE, oE + k, none⟩ = some (.slice aE u.length cE) := ⟨b20D.cell, b7D.cell, bTD.cell, bRD.cell, hecD⟩
            have hdl : decide ((k : Int) < more.length) = true := decide_eq_true (by omega)
            have hkm1 : (k : Int) < more.length := by omega
            have l20d := b20D.lt
            have l7d := b7D.lt
            have lTd' := bTD.lt
            have lRd := bRD.lt
            have lEd : bE < Y1.drew.heap.size := by omega
            clear hec0 hei0 hecD heiD hbE kwD
            have XhS := Lib.hid hS
            have Xhad := Lib.hid had
            have XhboD := Lib.hid hboD
            have Xb20D := Lib.hid b20D
            have XbTD := Lib.hid bTD
            have XbRD := Lib.hid bRD
            have Xb7D := Lib.hid b7D
            have XhQO := Lib.hid hQO
            have Xo20 := Lib.hid o20
            have Xo7 := Lib.hid o7
            have XoT := Lib.hid oT
            have XoR := Lib.hid oR
            have XoE' := Lib.hid oE'
            have XkYd := Lib.hid kYd
            have Xhu := Lib.hid hu
            clear hS had hboD b20D bTD bRD b7D hQO o20 o7 oT oR oE' kYd hu
            refine region_hoistR rfl (fun W => W.cell? ⟨b20, 0, none⟩ = some (.int .i64 (k : Int)) ∧ W.cell? ⟨b7, 0, none⟩ = some (.slice (some ⟨bE, oE, none⟩) more.length c2) ∧ W.cell? ⟨bT, 0, none⟩ = some (.pointer (some ⟨B, 0, none⟩)) ∧ W.cell? ⟨bT + 1, 0, none⟩ = some (.pointer (some ⟨Bf, 0, none⟩)) ∧ W.cell? ⟨bE, oE + k, none⟩ = some (.slice aE u.length cE)) [] ?_
            refine hoist_takeR (i := 0) (v := ?_) (fun _ => trivial) (by kernel_rfl) rfl (by kernel_rfl) (by kernel_rfl) (by kernel_rfl) (by kernel_rfl) (fun _ _ _ h => h) XhS.out (Or.inl ⟨by kernel_rfl, ?_⟩) ?_
            rotate_left
            · intro Wq hWq
              obtain ⟨x0, x1, x2, x3, x4⟩ := hWq
              go_simp
              try simp only [hdl]
              try with_reducible rfl
            try simp only [Act.put, List.getElem_toArray, List.getElem_cons_zero, List.getElem_cons_succ, List.setIfInBounds_toArray, List.set_cons_zero, List.set_cons_succ]
            refine hoist_takeR (i := 1) (v := ?_) (fun _ => trivial) (by kernel_rfl) rfl (by kernel_rfl) (by kernel_rfl) (by kernel_rfl) (by kernel_rfl) (fun _ _ _ h => h) XhS.out (Or.inl ⟨by kernel_rfl, ?_⟩) ?_
            rotate_left
            · intro Wq hWq
              obtain ⟨x0, x1, x2, x3, x4⟩ := hWq
              go_simp
              try simp only [hdl]
              try with_reducible rfl
            try simp only [Act.put, List.getElem_toArray, List.getElem_cons_zero, List.getElem_cons_succ, List.setIfInBounds_toArray, List.set_cons_zero, List.set_cons_succ]
            refine hoist_takeR (i := 2) (v := ?_) (fun _ => trivial) (by kernel_rfl) rfl (by kernel_rfl) (by kernel_rfl) (by kernel_rfl) (by kernel_rfl) (fun _ _ _ h => h) XhS.out (Or.inl ⟨by kernel_rfl, ?_⟩) ?_
            rotate_left
            · intro Wq hWq
              obtain ⟨x0, x1, x2, x3, x4⟩ := hWq
              go_simp
              try simp only [hdl]
              try with_reducible rfl
            try simp only [Act.put, List.getElem_toArray, List.getElem_cons_zero, List.getElem_cons_succ, List.setIfInBounds_toArray, List.set_cons_zero, List.set_cons_succ]
            refine hoist_takeR (i := 3) (v := ?_) (fun _ => trivial) (by kernel_rfl) rfl (by kernel_rfl) (by kernel_rfl) (by kernel_rfl) (by kernel_rfl) (fun _ _ _ h => h) XhS.out (Or.inl ⟨by kernel_rfl, ?_⟩) ?_
            rotate_left
            · intro Wq hWq
              obtain ⟨x0, x1, x2, x3, x4⟩ := hWq
              go_simp
              try simp only [hdl]
              try with_reducible rfl
            try simp only [Act.put, List.getElem_toArray, List.getElem_cons_zero, List.getElem_cons_succ, List.setIfInBounds_toArray, List.set_cons_zero, List.set_cons_succ]
            refine hoist_takeR (i := 4) (v := ?_) (fun _ => trivial) (by kernel_rfl) rfl (by kernel_rfl) (by kernel_rfl) (by kernel_rfl) (by kernel_rfl) (fun _ _ _ h => h) XhS.out (Or.inl ⟨by kernel_rfl, ?_⟩) ?_
            rotate_left
            · intro Wq hWq
              obtain ⟨x0, x1, x2, x3, x4⟩ := hWq
              go_simp
              try simp only [hdl]
              try with_reducible rfl
            try simp only [Act.put, List.getElem_toArray, List.getElem_cons_zero, List.getElem_cons_succ, List.setIfInBounds_toArray, List.set_cons_zero, List.set_cons_succ]
            refine hoist_takeR (i := 5) (v := ?_) (fun _ => trivial) (by kernel_rfl) rfl (by kernel_rfl) (by kernel_rfl) (by kernel_rfl) (by kernel_rfl) (fun _ _ _ h => h) XhS.out (Or.inl ⟨by kernel_rfl, ?_⟩) ?_
            rotate_left
            · intro Wq hWq
              obtain ⟨x0, x1, x2, x3, x4⟩ := hWq
              go_simp
              try simp only [hdl]
              try with_reducible rfl
            try simp only [Act.put, List.getElem_toArray, List.getElem_cons_zero, List.getElem_cons_succ, List.setIfInBounds_toArray, List.set_cons_zero, List.set_cons_succ]
            refine hoist_takeR (i := 6) (v := ?_) (fun _ => trivial) (by kernel_rfl) rfl (by kernel_rfl) (by kernel_rfl) (by kernel_rfl) (by kernel_rfl) (fun _ _ _ h => h) XhS.out (Or.inl ⟨by kernel_rfl, ?_⟩) ?_
            rotate_left
            · intro Wq hWq
              obtain ⟨x0, x1, x2, x3, x4⟩ := hWq
              go_simp
              try simp only [hdl]
              try with_reducible rfl
            try simp only [Act.put, List.getElem_toArray, List.getElem_cons_zero, List.getElem_cons_succ, List.setIfInBounds_toArray, List.set_cons_zero, List.set_cons_succ]
            refine hoist_takeR (i := 7) (v := ?_) (fun _ => trivial) (by kernel_rfl) rfl (by kernel_rfl) (by kernel_rfl) (by kernel_rfl) (by kernel_rfl) (fun _ _ _ h => h) XhS.out (Or.inl ⟨by kernel_rfl, ?_⟩) ?_
            rotate_left
            · intro Wq hWq
              obtain ⟨x0, x1, x2, x3, x4⟩ := hWq
              go_simp
              try simp only [hdl]
              try with_reducible rfl
            try simp only [Act.put, List.getElem_toArray, List.getElem_cons_zero, List.getElem_cons_succ, List.setIfInBounds_toArray, List.set_cons_zero, List.set_cons_succ]
            refine hoist_takeR (i := 8) (v := ?_) (fun _ => trivial) (by kernel_rfl) rfl (by kernel_rfl) (by kernel_rfl) (by kernel_rfl) (by kernel_rfl) (fun _ _ _ h => h) XhS.out (Or.inl ⟨by kernel_rfl, ?_⟩) ?_
            rotate_left
            · intro Wq hWq
              obtain ⟨x0, x1, x2, x3, x4⟩ := hWq
              go_simp
              try simp only [hdl]
              try with_reducible rfl
            try simp only [Act.put, List.getElem_toArray, List.getElem_cons_zero, List.getElem_cons_succ, List.setIfInBounds_toArray, List.set_cons_zero, List.set_cons_succ]
            refine hoist_takeR (i := 9) (v := ?_) (fun _ => trivial) (by kernel_rfl) rfl (by kernel_rfl) (by kernel_rfl) (by kernel_rfl) (by kernel_rfl) (fun _ _ _ h => h) XhS.out (Or.inl ⟨by kernel_rfl, ?_⟩) ?_
            rotate_left
            · intro Wq hWq
              obtain ⟨x0, x1, x2, x3, x4⟩ := hWq
              go_simp
              try simp only [hdl]
              try with_reducible rfl
            try simp only [Act.put, List.getElem_toArray, List.getElem_cons_zero, List.getElem_cons_succ, List.setIfInBounds_toArray, List.set_cons_zero, List.set_cons_succ]
            refine hoist_takeR (i := 10) (v := ?_) (fun _ => trivial) (by kernel_rfl) rfl (by kernel_rfl) (by kernel_rfl) (by kernel_rfl) (by kernel_rfl) (fun _ _ _ h => h) XhS.out (Or.inl ⟨by kernel_rfl, ?_⟩) ?_
            rotate_left
            · intro Wq hWq
              obtain ⟨x0, x1, x2, x3, x4⟩ := hWq
              go_simp
              try simp only [hdl]
              try with_reducible rfl
            try simp only [Act.put, List.getElem_toArray, List.getElem_cons_zero, List.getElem_cons_succ, List.setIfInBounds_toArray, List.set_cons_zero, List.set_cons_succ]
            refine hoist_oneR (i := 11) rfl (by kernel_rfl) (fun K hK => ?_)
            have XhK4 := Lib.hid hK
            clear hK
            gi_wp2
            refine ⟨trivial, rfl, (CallsIn.inRound l (callsIn_wide.2 Xhad.out)).mono ?_⟩
            rintro e Y2 ⟨rfl, s2, F2, vL2, svs2, hbo2, hts2, ho2, k2⟩
            have hS2 : Y2.cell? ⟨b20, 0, none⟩ = some (.int .i64 (k : Int)) ∧ Y2.cell? ⟨b7, 0, none⟩ = some (.slice (some ⟨bE, oE, none⟩) more.length c2) ∧ Y2.cell? ⟨bT, 0, none⟩ = some (.pointer (some ⟨B, 0, none⟩)) ∧ Y2.cell? ⟨bT + 1, 0, none⟩ = some (.pointer (some ⟨Bf, 0, none⟩)) ∧ Y2.cell? ⟨bE, oE + k, none⟩ = some (.slice aE u.length cE) :=
              ⟨k2.cell XhS.out.1 Xo20.out, k2.cell XhS.out.2.1 Xo7.out, k2.cell XhS.out.2.2.1 XoT.out, k2.cell XhS.out.2.2.2.1 XoR.out, k2.cell XhS.out.2.2.2.2 XoE'.out⟩
            obtain ⟨us0, hus0⟩ := XhX.out.pre
            obtain ⟨us1, hus1⟩ := addT_pre n s'.ts u
            have hfin := Xfin.out s2 F2 vL2 svs2 Y2 hbo2 ⟨ho2.bd.mono zYD, fun b hb => (ho2.new b hb).elim .inl (fun h => .inr (by omega))⟩ ((XkYd.out.mono fun _ _ _ => trivial).trans k2) (by rw [hts2]; have := addT_len n s'.ts u; have := Xlenk.out; omega) ⟨us0 ++ us1, by rw [hts2, hus1, hus0, List.append_assoc]⟩
            have c20z := hfin.2.cell
            have l20z := hfin.2.lt
            have f20z := box_free hfin.2 0
            have hfinE := hfin.1
            clear hbo2 hts2 ho2 k2 hfin hus0 hus1
            have XhS2 := Lib.hid hS2
            have XhfinE := Lib.hid hfinE
            clear hS2 hfinE
            gi_wp2
            refine XhK4.out _ _ (fun _ => XhS2.out) ?_
            refine hoist_takeR (i := 12) (v := ?_) (fun _ => trivial) (by kernel_rfl) rfl (by kernel_rfl) (by kernel_rfl) (by kernel_rfl) (by kernel_rfl) (fun _ _ _ h => h) XhS2.out (Or.inl ⟨by kernel_rfl, ?_⟩) ?_
            rotate_left
            · intro Wq hWq
              obtain ⟨x0, x1, x2, x3, x4⟩ := hWq
              go_simp
              try simp only [hdl]
              try with_reducible rfl
            try simp only [Act.put, List.getElem_toArray, List.getElem_cons_zero, List.getElem_cons_succ, List.setIfInBounds_toArray, List.set_cons_zero, List.set_cons_succ]
            refine hoist_takeR (i := 13) (v := ?_) (fun _ => trivial) (by kernel_rfl) rfl (by kernel_rfl) (by kernel_rfl) (by kernel_rfl) (by kernel_rfl) (fun _ _ _ h => h) XhS2.out (Or.inl ⟨by kernel_rfl, ?_⟩) ?_
            rotate_left
            · intro Wq hWq
              obtain ⟨x0, x1, x2, x3, x4⟩ := hWq
              go_simp
              try simp only [hdl]
              try with_reducible rfl
            try simp only [Act.put, List.getElem_toArray, List.getElem_cons_zero, List.getElem_cons_succ, List.setIfInBounds_toArray, List.set_cons_zero, List.set_cons_succ]
            refine hoist_doneR (by kernel_rfl) ?_
            refine onlyN_mk ?_
            clear XhK4 XhS XhS2 Xhad
            gi_wp2
            exact XhfinE.out
          · have hdl : decide ((k : Int) < more.length) = false := decide_eq_false (by omega)
            have hkm1 : ¬ (k : Int) < more.length := by omega
            have hS : Y1.drew.cell? ⟨b20, 0, none⟩ = some (.int .i64 (k : Int)) ∧ Y1.drew.cell? ⟨b7, 0, none⟩ = some (.slice a2 more.length c2) := ⟨b20D.cell, b7D.cell⟩
            have hfin := Xfin.out s' F' _ svs' Y1.drew hboD (BothOn.refl _ _ _) (kYd.mono fun _ _ _ => trivial) (by have := Xlenk.out; omega) XhX.out.pre
            have c20z := hfin.2.cell
            have l20z := hfin.2.lt
            have f20z := box_free hfin.2 0
            have hfinE := hfin.1
            have l20d := b20D.lt
            have l7d := b7D.lt
            obtain ⟨Y2, hY2⟩ : ∃ Y2, Y1.drew = Y2 := ⟨_, rfl⟩
            rw [hY2] at hS hfinE c20z l20z f20z l20d l7d
            clear hfin kwD
            clear hboD
            have XhS := Lib.hid hS
            have Xb20D := Lib.hid b20D
            have XbTD := Lib.hid bTD
            have XbRD := Lib.hid bRD
            have Xb7D := Lib.hid b7D
            have XhQO := Lib.hid hQO
            have Xo20 := Lib.hid o20
            have Xo7 := Lib.hid o7
            have XoT := Lib.hid oT
            have XoR := Lib.hid oR
            have XkYd := Lib.hid kYd
            have XhfinE := Lib.hid hfinE
            have Xz7 := Lib.hid z7
            clear hS b20D bTD bRD b7D hQO o20 o7 oT oR kYd hfinE z7
            refine region_hoistR rfl (fun W => W.cell? ⟨b20, 0, none⟩ = some (.int .i64 (k : Int)) ∧ W.cell? ⟨b7, 0, none⟩ = some (.slice a2 more.length c2)) [] ?_
            rw [hY2]
            clear hY2 hwlt zYD
            refine hoist_takeR (i := 0) (v := ?_) (fun _ => trivial) (by kernel_rfl) rfl (by kernel_rfl) (by kernel_rfl) (by kernel_rfl) (by kernel_rfl) (fun _ _ _ h => h) XhS.out (Or.inl ⟨by kernel_rfl, ?_⟩) ?_
            rotate_left
            · intro Wq hWq
              obtain ⟨x0, x1⟩ := hWq
              go_simp
              try simp only [hdl]
              try with_reducible rfl
            try simp only [Act.put, List.getElem_toArray, List.getElem_cons_zero, List.getElem_cons_succ, List.setIfInBounds_toArray, List.set_cons_zero, List.set_cons_succ]
            refine hoist_takeR (i := 1) (v := ?_) (fun _ => trivial) (by kernel_rfl) rfl (by kernel_rfl) (by kernel_rfl) (by kernel_rfl) (by kernel_rfl) (fun _ _ _ h => h) XhS.out (Or.inl ⟨by kernel_rfl, ?_⟩) ?_
            rotate_left
            · intro Wq hWq
              obtain ⟨x0, x1⟩ := hWq
              go_simp
              try simp only [hdl]
              try with_reducible rfl
            try simp only [Act.put, List.getElem_toArray, List.getElem_cons_zero, List.getElem_cons_succ, List.setIfInBounds_toArray, List.set_cons_zero, List.set_cons_succ]
            refine hoist_takeR (i := 2) (v := ?_) (fun _ => trivial) (by kernel_rfl) rfl (by kernel_rfl) (by kernel_rfl) (by kernel_rfl) (by kernel_rfl) (fun _ _ _ h => h) XhS.out (Or.inl ⟨by kernel_rfl, ?_⟩) ?_
            rotate_left
            · intro Wq hWq
              obtain ⟨x0, x1⟩ := hWq
              go_simp
              try simp only [hdl]
              try with_reducible rfl
            try simp only [Act.put, List.getElem_toArray, List.getElem_cons_zero, List.getElem_cons_succ, List.setIfInBounds_toArray, List.set_cons_zero, List.set_cons_succ]
            refine hoist_takeR (i := 3) (v := ?_) (fun _ => trivial) (by kernel_rfl) rfl (by kernel_rfl) (by kernel_rfl) (by kernel_rfl) (by kernel_rfl) (fun _ _ _ h => h) XhS.out (Or.inl ⟨by kernel_rfl, ?_⟩) ?_
            rotate_left
            · intro Wq hWq
              obtain ⟨x0, x1⟩ := hWq
              go_simp
              try simp only [hdl]
              try with_reducible rfl
            try simp only [Act.put, List.getElem_toArray, List.getElem_cons_zero, List.getElem_cons_succ, List.setIfInBounds_toArray, List.set_cons_zero, List.set_cons_succ]
            refine hoist_takeR (i := 4) (v := ?_) (fun _ => trivial) (by kernel_rfl) rfl (by kernel_rfl) (by kernel_rfl) (by kernel_rfl) (by kernel_rfl) (fun _ _ _ h => h) XhS.out (Or.inl ⟨by kernel_rfl, ?_⟩) ?_
            rotate_left
            · intro Wq hWq
              obtain ⟨x0, x1⟩ := hWq
              go_simp
              try simp only [hdl]
              try with_reducible rfl
            try simp only [Act.put, List.getElem_toArray, List.getElem_cons_zero, List.getElem_cons_succ, List.setIfInBounds_toArray, List.set_cons_zero, List.set_cons_succ]
            refine hoist_takeR (i := 5) (v := undef) (fun _ => trivial) (by kernel_rfl) rfl (by kernel_rfl) (by kernel_rfl) (by kernel_rfl) (by kernel_rfl) (fun _ _ _ h => h) XhS.out (Or.inr ⟨by kernel_rfl, rfl⟩) ?_
            try simp only [Act.put, List.getElem_toArray, List.getElem_cons_zero, List.getElem_cons_succ, List.setIfInBounds_toArray, List.set_cons_zero, List.set_cons_succ]
            refine hoist_takeR (i := 6) (v := undef) (fun _ => trivial) (by kernel_rfl) rfl (by kernel_rfl) (by kernel_rfl) (by kernel_rfl) (by kernel_rfl) (fun _ _ _ h => h) XhS.out (Or.inr ⟨by kernel_rfl, rfl⟩) ?_
            try simp only [Act.put, List.getElem_toArray, List.getElem_cons_zero, List.getElem_cons_succ, List.setIfInBounds_toArray, List.set_cons_zero, List.set_cons_succ]
            refine hoist_takeR (i := 7) (v := undef) (fun _ => trivial) (by kernel_rfl) rfl (by kernel_rfl) (by kernel_rfl) (by kernel_rfl) (by kernel_rfl) (fun _ _ _ h => h) XhS.out (Or.inr ⟨by kernel_rfl, rfl⟩) ?_
            try simp only [Act.put, List.getElem_toArray, List.getElem_cons_zero, List.getElem_cons_succ, List.setIfInBounds_toArray, List.set_cons_zero, List.set_cons_succ]
            refine hoist_takeR (i := 8) (v := undef) (fun _ => trivial) (by kernel_rfl) rfl (by kernel_rfl) (by kernel_rfl) (by kernel_rfl) (by kernel_rfl) (fun _ _ _ h => h) XhS.out (Or.inr ⟨by kernel_rfl, rfl⟩) ?_
            try simp only [Act.put, List.getElem_toArray, List.getElem_cons_zero, List.getElem_cons_succ, List.setIfInBounds_toArray, List.set_cons_zero, List.set_cons_succ]
            refine hoist_takeR (i := 9) (v := undef) (fun _ => trivial) (by kernel_rfl) rfl (by kernel_rfl) (by kernel_rfl) (by kernel_rfl) (by kernel_rfl) (fun _ _ _ h => h) XhS.out (Or.inr ⟨by kernel_rfl, rfl⟩) ?_
            try simp only [Act.put, List.getElem_toArray, List.getElem_cons_zero, List.getElem_cons_succ, List.setIfInBounds_toArray, List.set_cons_zero, List.set_cons_succ]
            refine hoist_takeR (i := 10) (v := undef) (fun _ => trivial) (by kernel_rfl) rfl (by kernel_rfl) (by kernel_rfl) (by kernel_rfl) (by kernel_rfl) (fun _ _ _ h => h) XhS.out (Or.inr ⟨by kernel_rfl, rfl⟩) ?_
            try simp only [Act.put, List.getElem_toArray, List.getElem_cons_zero, List.getElem_cons_succ, List.setIfInBounds_toArray, List.set_cons_zero, List.set_cons_succ]
            refine hoist_takeR (i := 11) (v := undef) (fun _ => trivial) (by kernel_rfl) rfl (by kernel_rfl) (by kernel_rfl) (by kernel_rfl) (by kernel_rfl) (fun _ _ _ h => h) XhS.out (Or.inr ⟨by kernel_rfl, rfl⟩) ?_
            try simp only [Act.put, List.getElem_toArray, List.getElem_cons_zero, List.getElem_cons_succ, List.setIfInBounds_toArray, List.set_cons_zero, List.set_cons_succ]
            refine hoist_takeR (i := 12) (v := undef) (fun _ => trivial) (by kernel_rfl) rfl (by kernel_rfl) (by kernel_rfl) (by kernel_rfl) (by kernel_rfl) (fun _ _ _ h => h) XhS.out (Or.inr ⟨by kernel_rfl, rfl⟩) ?_
            try simp only [Act.put, List.getElem_toArray, List.getElem_cons_zero, List.getElem_cons_succ, List.setIfInBounds_toArray, List.set_cons_zero, List.set_cons_succ]
            refine hoist_takeR (i := 13) (v := ?_) (fun _ => trivial) (by kernel_rfl) rfl (by kernel_rfl) (by kernel_rfl) (by kernel_rfl) (by kernel_rfl) (fun _ _ _ h => h) XhS.out (Or.inl ⟨by kernel_rfl, ?_⟩) ?_
            rotate_left
            · intro Wq hWq
              obtain ⟨x0, x1⟩ := hWq
              go_simp
              try simp only [hdl]
              try with_reducible rfl
            try simp only [Act.put, List.getElem_toArray, List.getElem_cons_zero, List.getElem_cons_succ, List.setIfInBounds_toArray, List.set_cons_zero, List.set_cons_succ]
            refine hoist_doneR (by kernel_rfl) ?_
            refine onlyN_mk ?_
            clear XhS
            gi_wp2
            exact XhfinE.out
        case done =>
          rintro D s' W hD hfD hWD hsd hR hinvW hVW
          rw [XhNs.out] at hR
          obtain ⟨F', vL', svs', r1, r2, r3, r4⟩ := hR.ref
          have hQt : ∀ b, (b = b18 ∨ Value.ownBlock (.slice aW pl.length cW) = some b ∨ b ∈ Ds ∨ U b ∨ b < w.heap.size ∨ b = b7 ∨ b = b7 + 1 ∨ b = bT ∨ b = bT + 1) → Q b := fun b hb => by rw [XhQd.out]; exact hb
          have hQO : ∀ b, Q b → Outside s' F' b := fun b hq => ⟨hR.fr.2 b hq, r3 b hq⟩
          have hboW : Both B n P KM s' F' Bf vL' svs' W := ⟨hinvW, r1, fun b hF => (r2 b hF).1, fun b hF => (r2 b hF).2.1⟩
          have kwW : Keep (fun b => b < w.heap.size) w W := Xhst7.out.keep.trans (hR.keep.mono fun b _ h => hQt b (by simp [h]))
          have hstW : MwSt w b7 (b7 + 1) bT (bT + 1) B n P KM Bf (.slice a2 more.length c2) s' F' vL' svs' W := by
            obtain ⟨v, hv⟩ := Xhst7.out.h10
            exact ⟨hboW, Xhst7.out.h7.keep hR.keep (hQt _ (by simp)), ⟨v, hv.keep hR.keep (hQt _ (by simp))⟩, Xhst7.out.hT.keep hR.keep (hQt _ (by simp)), Xhst7.out.hR.keep hR.keep (hQt _ (by simp)), fun b hb => hQO b (hQt b (by rcases hb with h | h | h | h | h <;> simp [h])), kwW⟩
          have g18W := Xg187.out.keep hR.keep (hQt _ (by simp))
          have o18 : Outside s' F' b18 := hQO b18 (hQt _ (by simp))
          have o20 : Outside s' F' b20 := ⟨hR.fr.1, r4⟩
          have oT : Outside s' F' bT := hQO _ (hQt _ (by simp))
          have oR : Outside s' F' (bT + 1) := hQO _ (hQt _ (by simp))
          have hwr7 : wr.heap.size ≤ W7.heap.size := by have e20 := Xhb20.out; omega
          have hww : w.heap.size ≤ wr.heap.size := Xhst.out.keep.size
          have hDn' : (D :: Ds).Nodup := List.nodup_cons.2 ⟨fun h => by have := XhDlt.out D h; omega, XhDn.out⟩
          have hDo : Outside s' F' D := ⟨hfD, fun hF => by have := (r2 D hF).2.2; omega⟩
          have hDs' : ∀ E, E ∈ D :: Ds → w.heap.size ≤ E ∧ Outside s' F' E := fun E hE => by
            rcases List.mem_cons.1 hE with rfl | hE
            · exact ⟨by omega, hDo⟩
            · exact ⟨(XhDs.out E hE).1, hQO E (hQt E (.inr (.inr (.inl hE))))⟩
          have hlen' : s'.ts.length ≤ s.ts.length + more.length := by have := hR.len; omega
          obtain ⟨Wd, hWd⟩ : ∃ Wd, W.drew = Wd := ⟨_, rfl⟩
          have kdW : Keep (fun _ => True) W Wd := by rw [← hWd]; exact Keep.drew _ _
          have hDmd : ∀ E, E ∈ D :: Ds → Wd.heap[E]? = some (.deferred (some [])) := fun E hE => by
            rcases List.mem_cons.1 hE with rfl | hE
            · exact kdW.heap hWD trivial
            · exact kdW.heap (hR.keep.heap (XhDm7.out E hE) (hQt E (.inr (.inr (.inl hE))))) trivial
          have hstd' := hstW.stay kdW (fun _ _ _ => trivial)
          have g18d' := g18W.keep kdW trivial
          have g20d' := hR.box.keep kdW trivial
          have kwd' : Keep (fun b => b < w.heap.size) w Wd := hstd'.keep
          have hiCe : IntsIn m Wd (.slice none 0 0) ([] : List Int) := ints_wider (nil_ints Wd) (Nat.zero_le m)
          have hiKe : IntsIn m Wd (.slice none 0 0) ([] : List Int) := ints_wider (nil_ints Wd) (Nat.zero_le m)
          have hme : m ≤ Wd.heap.size := Nat.le_trans hm kwd'.size
          have hmke := relMatch_any Wd B m _ _ ([] : List Int) ([] : List Int) 0 to hiCe hiKe hme
          have hSd : Wd.cell? ⟨b20, 0, none⟩ = some (.int .i64 (pl.length : Int)) ∧ Wd.cell? ⟨b18, 0, none⟩ = some (.slice aW pl.length cW) ∧ Wd.cell? ⟨bT, 0, none⟩ = some (.pointer (some ⟨B, 0, none⟩)) ∧ Wd.cell? ⟨bT + 1, 0, none⟩ = some (.pointer (some ⟨Bf, 0, none⟩)) := ⟨g20d'.cell, g18d'.cell, hstd'.hT.cell, hstd'.hR.cell⟩
          have hltd : b20 < Wd.heap.size ∧ b18 < Wd.heap.size ∧ bT < Wd.heap.size ∧ bT + 1 < Wd.heap.size := ⟨g20d'.lt, g18d'.lt, hstd'.hT.lt, hstd'.hR.lt⟩
          have hDle : ∀ E, E ∈ D :: Ds → E < Wd.heap.size := fun E hE => heap_lt (hDmd E hE)
          clear r1 r2 r3 r4 hQt hQO hboW kwW hstW g18W hwr7 hDo hWD hfD hR hinvW hVW kdW g18d' g20d' hsd
          clear Xhst7 Xg187 XhoW7 XhV7 Xhfr7 XhQd XhQo XhUQ Xh0 Xhinv7 Xhfree7 Xg20 XhV6 XhVU XhU6 XhA XhAs XhNs
          have XhSd := Lib.hid hSd
          have Xhmke := Lib.hid hmke
          have Xo18 := Lib.hid o18
          have Xo20 := Lib.hid o20
          have XoT := Lib.hid oT
          have XoR := Lib.hid oR
          have XhDn' := Lib.hid hDn'
          have XhDs' := Lib.hid hDs'
          have XhDmd := Lib.hid hDmd
          have Xhstd' := Lib.hid hstd'
          have Xkwd' := Lib.hid kwd'
          have XhiCe := Lib.hid hiCe
          have XhiKe := Lib.hid hiKe
          have Xhltd := Lib.hid hltd
          have XhDle := Lib.hid hDle
          have XhWd := Lib.hid hWd
          clear hSd hmke o18 o20 oT oR hDn' hDs' hDmd hstd' kwd' hiCe hiKe hltd hDle hWd
          gi_wp2
          refine wpIn_onlyN ?_
          refine wpIn_wide.2 ?_
          refine region_hoist rfl (fun W => W.cell? ⟨b20, 0, none⟩ = some (.int .i64 (pl.length : Int)) ∧ W.cell? ⟨b18, 0, none⟩ = some (.slice aW pl.length cW) ∧ W.cell? ⟨bT, 0, none⟩ = some (.pointer (some ⟨B, 0, none⟩)) ∧ W.cell? ⟨bT + 1, 0, none⟩ = some (.pointer (some ⟨Bf, 0, none⟩))) [] ?_
          rw [XhWd.out]
          refine hoist_take (i := 0) (v := ?_) rfl (by kernel_rfl) (by kernel_rfl) (by kernel_rfl) (by kernel_rfl) (fun _ _ _ h => h) XhSd.out (Or.inl ⟨by kernel_rfl, ?_⟩) ?_
          rotate_left
          · intro Wq hWq
            obtain ⟨x0, x1, x2, x3⟩ := hWq
            go_simp
            try simp only [bne_self_eq_false]
            try with_reducible rfl
          try simp only [Act.put, List.getElem_toArray, List.getElem_cons_zero, List.getElem_cons_succ, List.setIfInBounds_toArray, List.set_cons_zero, List.set_cons_succ]
          refine hoist_take (i := 1) (v := ?_) rfl (by kernel_rfl) (by kernel_rfl) (by kernel_rfl) (by kernel_rfl) (fun _ _ _ h => h) XhSd.out (Or.inl ⟨by kernel_rfl, ?_⟩) ?_
          rotate_left
          · intro Wq hWq
            obtain ⟨x0, x1, x2, x3⟩ := hWq
            go_simp
            try simp only [bne_self_eq_false]
            try with_reducible rfl
          try simp only [Act.put, List.getElem_toArray, List.getElem_cons_zero, List.getElem_cons_succ, List.setIfInBounds_toArray, List.set_cons_zero, List.set_cons_succ]
          refine hoist_take (i := 2) (v := ?_) rfl (by kernel_rfl) (by kernel_rfl) (by kernel_rfl) (by kernel_rfl) (fun _ _ _ h => h) XhSd.out (Or.inl ⟨by kernel_rfl, ?_⟩) ?_
          rotate_left
          · intro Wq hWq
            obtain ⟨x0, x1, x2, x3⟩ := hWq
            go_simp
            try simp only [bne_self_eq_false]
            try with_reducible rfl
          try simp only [Act.put, List.getElem_toArray, List.getElem_cons_zero, List.getElem_cons_succ, List.setIfInBounds_toArray, List.set_cons_zero, List.set_cons_succ]
          refine hoist_take (i := 3) (v := ?_) rfl (by kernel_rfl) (by kernel_rfl) (by kernel_rfl) (by kernel_rfl) (fun _ _ _ h => h) XhSd.out (Or.inl ⟨by kernel_rfl, ?_⟩) ?_
          rotate_left
          · intro Wq hWq
            obtain ⟨x0, x1, x2, x3⟩ := hWq
            go_simp
            try simp only [bne_self_eq_false]
            try with_reducible rfl
          try simp only [Act.put, List.getElem_toArray, List.getElem_cons_zero, List.getElem_cons_succ, List.setIfInBounds_toArray, List.set_cons_zero, List.set_cons_succ]
          refine hoist_take (i := 4) (v := ?_) rfl (by kernel_rfl) (by kernel_rfl) (by kernel_rfl) (by kernel_rfl) (fun _ _ _ h => h) XhSd.out (Or.inl ⟨by kernel_rfl, ?_⟩) ?_
          rotate_left
          · intro Wq hWq
            obtain ⟨x0, x1, x2, x3⟩ := hWq
            go_simp
            try simp only [bne_self_eq_false]
            try with_reducible rfl
          try simp only [Act.put, List.getElem_toArray, List.getElem_cons_zero, List.getElem_cons_succ, List.setIfInBounds_toArray, List.set_cons_zero, List.set_cons_succ]
          refine hoist_take (i := 5) (v := ?_) rfl (by kernel_rfl) (by kernel_rfl) (by kernel_rfl) (by kernel_rfl) (fun _ _ _ h => h) XhSd.out (Or.inl ⟨by kernel_rfl, ?_⟩) ?_
          rotate_left
          · intro Wq hWq
            obtain ⟨x0, x1, x2, x3⟩ := hWq
            go_simp
            try simp only [bne_self_eq_false]
            try with_reducible rfl
          try simp only [Act.put, List.getElem_toArray, List.getElem_cons_zero, List.getElem_cons_succ, List.setIfInBounds_toArray, List.set_cons_zero, List.set_cons_succ]
          refine hoist_take (i := 6) (v := ?_) rfl (by kernel_rfl) (by kernel_rfl) (by kernel_rfl) (by kernel_rfl) (fun _ _ _ h => h) XhSd.out (Or.inl ⟨by kernel_rfl, ?_⟩) ?_
          rotate_left
          · intro Wq hWq
            obtain ⟨x0, x1, x2, x3⟩ := hWq
            go_simp
            try simp only [bne_self_eq_false]
            try with_reducible rfl
          try simp only [Act.put, List.getElem_toArray, List.getElem_cons_zero, List.getElem_cons_succ, List.setIfInBounds_toArray, List.set_cons_zero, List.set_cons_succ]
          refine hoist_take (i := 7) (v := ?_) rfl (by kernel_rfl) (by kernel_rfl) (by kernel_rfl) (by kernel_rfl) (fun _ _ _ h => h) XhSd.out (Or.inl ⟨by kernel_rfl, ?_⟩) ?_
          rotate_left
          · intro Wq hWq
            obtain ⟨x0, x1, x2, x3⟩ := hWq
            go_simp
            try simp only [bne_self_eq_false]
            try with_reducible rfl
          try simp only [Act.put, List.getElem_toArray, List.getElem_cons_zero, List.getElem_cons_succ, List.setIfInBounds_toArray, List.set_cons_zero, List.set_cons_succ]
          refine hoist_take (i := 8) (v := ?_) rfl (by kernel_rfl) (by kernel_rfl) (by kernel_rfl) (by kernel_rfl) (fun _ _ _ h => h) XhSd.out (Or.inl ⟨by kernel_rfl, ?_⟩) ?_
          rotate_left
          · intro Wq hWq
            obtain ⟨x0, x1, x2, x3⟩ := hWq
            go_simp
            try simp only [bne_self_eq_false]
            try with_reducible rfl
          try simp only [Act.put, List.getElem_toArray, List.getElem_cons_zero, List.getElem_cons_succ, List.setIfInBounds_toArray, List.set_cons_zero, List.set_cons_succ]
          refine hoist_take (i := 10) (v := ?_) rfl (by kernel_rfl) (by kernel_rfl) (by kernel_rfl) (by kernel_rfl) (fun _ _ _ h => h) XhSd.out (Or.inl ⟨by kernel_rfl, ?_⟩) ?_
          rotate_left
          · intro Wq hWq
            obtain ⟨x0, x1, x2, x3⟩ := hWq
            go_simp
            try simp only [bne_self_eq_false]
            try with_reducible rfl
          try simp only [Act.put, List.getElem_toArray, List.getElem_cons_zero, List.getElem_cons_succ, List.setIfInBounds_toArray, List.set_cons_zero, List.set_cons_succ]
          refine hoist_take (i := 11) (v := ?_) rfl (by kernel_rfl) (by kernel_rfl) (by kernel_rfl) (by kernel_rfl) (fun _ _ _ h => h) XhSd.out (Or.inl ⟨by kernel_rfl, ?_⟩) ?_
          rotate_left
          · intro Wq hWq
            obtain ⟨x0, x1, x2, x3⟩ := hWq
            go_simp
            try simp only [bne_self_eq_false]
            try with_reducible rfl
          try simp only [Act.put, List.getElem_toArray, List.getElem_cons_zero, List.getElem_cons_succ, List.setIfInBounds_toArray, List.set_cons_zero, List.set_cons_succ]
          refine hoist_take (i := 12) (v := ?_) rfl (by kernel_rfl) (by kernel_rfl) (by kernel_rfl) (by kernel_rfl) (fun _ _ _ h => h) XhSd.out (Or.inl ⟨by kernel_rfl, ?_⟩) ?_
          rotate_left
          · intro Wq hWq
            obtain ⟨x0, x1, x2, x3⟩ := hWq
            go_simp
            try simp only [bne_self_eq_false]
            try with_reducible rfl
          try simp only [Act.put, List.getElem_toArray, List.getElem_cons_zero, List.getElem_cons_succ, List.setIfInBounds_toArray, List.set_cons_zero, List.set_cons_succ]
          refine hoist_take (i := 13) (v := ?_) rfl (by kernel_rfl) (by kernel_rfl) (by kernel_rfl) (by kernel_rfl) (fun _ _ _ h => h) XhSd.out (Or.inl ⟨by kernel_rfl, ?_⟩) ?_
          rotate_left
          · intro Wq hWq
            obtain ⟨x0, x1, x2, x3⟩ := hWq
            go_simp
            try simp only [bne_self_eq_false]
            try with_reducible rfl
          try simp only [Act.put, List.getElem_toArray, List.getElem_cons_zero, List.getElem_cons_succ, List.setIfInBounds_toArray, List.set_cons_zero, List.set_cons_succ]
          refine hoist_take (i := 14) (v := ?_) rfl (by kernel_rfl) (by kernel_rfl) (by kernel_rfl) (by kernel_rfl) (fun _ _ _ h => h) XhSd.out (Or.inl ⟨by kernel_rfl, ?_⟩) ?_
          rotate_left
          · intro Wq hWq
            obtain ⟨x0, x1, x2, x3⟩ := hWq
            go_simp
            try simp only [bne_self_eq_false]
            try with_reducible rfl
          try simp only [Act.put, List.getElem_toArray, List.getElem_cons_zero, List.getElem_cons_succ, List.setIfInBounds_toArray, List.set_cons_zero, List.set_cons_succ]
          refine hoist_one (i := 9) rfl (by kernel_rfl) (fun K hK => ?_)
          have XhK0 := Lib.hid hK
          clear hK
          go_wp2_with fail
          refine Xhmke.out.mono ?_
          rintro e W3 ⟨bR', bL', bK', bT', bF', vl', vk', rfl, k3, hMV⟩
          have hS3 : W3.cell? ⟨b20, 0, none⟩ = some (.int .i64 (pl.length : Int)) ∧ W3.cell? ⟨b18, 0, none⟩ = some (.slice aW pl.length cW) ∧ W3.cell? ⟨bT, 0, none⟩ = some (.pointer (some ⟨B, 0, none⟩)) ∧ W3.cell? ⟨bT + 1, 0, none⟩ = some (.pointer (some ⟨Bf, 0, none⟩)) := ⟨k3.cell XhSd.out.1 trivial, k3.cell XhSd.out.2.1 trivial, k3.cell XhSd.out.2.2.1 trivial, k3.cell XhSd.out.2.2.2 trivial⟩
          have hst3' := Xhstd'.out.stay k3 (fun _ _ _ => trivial)
          have hiC3' := ints_stay XhiCe.out (m := m) (k3.mono fun _ _ _ => trivial) (Nat.le_refl _)
          have hiK3' := ints_stay XhiKe.out (m := m) (k3.mono fun _ _ _ => trivial) (Nat.le_refl _)
          have hz3' := k3.size
          have hmr := refMatch_any (hst3'.both.ref.lists (by have := hst3'.both.rel.few; omega)) hst3'.both.rel.own.len m _ _ ([] : List Int) ([] : List Int) 0 to hiC3' hiK3' (by omega)
          have Xk3 := Lib.hid k3
          have XhMV := Lib.hid hMV
          have XhS3 := Lib.hid hS3
          have Xhst3' := Lib.hid hst3'
          have Xhmr := Lib.hid hmr
          have XhiC3' := Lib.hid hiC3'
          have XhiK3' := Lib.hid hiK3'
          clear k3 hMV hS3 hst3' hmr hiC3' hiK3'
          go_wp2_with fail
          refine XhK0.out _ _ (fun _ => XhS3.out) ?_
          refine hoist_one (i := 15) rfl (by kernel_rfl) (fun K hK => ?_)
          have XhK1 := Lib.hid hK
          clear hK
          go_wp2_with fail
          refine Xhmr.out.mono ?_
          rintro e W4 ⟨v4, rfl, k4, ho4⟩
          obtain ⟨pl2, hpl2⟩ : ∃ pl2, matchD n s'.ts ([] : List Int) ([] : List Int) 0 to = pl2 := ⟨_, rfl⟩
          rw [hpl2] at ho4
          have hS4 : W4.cell? ⟨b20, 0, none⟩ = some (.int .i64 (pl.length : Int)) ∧ W4.cell? ⟨b18, 0, none⟩ = some (.slice aW pl.length cW) ∧ W4.cell? ⟨bT, 0, none⟩ = some (.pointer (some ⟨B, 0, none⟩)) ∧ W4.cell? ⟨bT + 1, 0, none⟩ = some (.pointer (some ⟨Bf, 0, none⟩)) := by
            obtain ⟨q1, q2, q3, q4⟩ := Xhltd.out
            exact ⟨k4.cell XhS3.out.1 (by simp only; omega), k4.cell XhS3.out.2.1 (by simp only; omega), k4.cell XhS3.out.2.2.1 (by simp only; omega), k4.cell XhS3.out.2.2.2 (by simp only; omega)⟩
          have hst4' := Xhst3'.out.stay k4 (fun b hb _ => hb)
          have hz4' := k4.size
          have hnew : ∀ b, Wd.heap.size ≤ b → s'.tag b = none := fun b hb => by
            cases hT : s'.tag b with
            | none => rfl
            | some T => have := Xhstd'.out.both.rel.own.lt b T hT; omega
          have hMV4 := XhMV.out.keep k4 (fun b _ h => h)
          have eg2 := enters Try.func32 (by kernel_rfl) rfl
          have hpl2n : pl2.length ≤ 67108864 := by rw [← hpl2]; exact Nat.le_trans (matchD_len _ _ _ _ _ _) hst4'.both.rel.few
          have hgo := goes0_any hst4'.both 32 _ eg2 _ _ _ _
            (relMatch_iter B n P KM Wd.heap.size W3.heap.size bR' bL' bK' bT' bF' vl' vk' 0 to ([] : List Int) ([] : List Int) (by simp [okT]) (by simp) (by simp)) hMV4 (fun X Y hv hk => hv.keep hk (fun b h1 h2 => ⟨h1, h2⟩))
            (fun b hb => ⟨by omega, hnew b hb.1⟩) pl2 hpl2n v4 (own_base2 ho4 (Nat.zero_le _)) (fun b hb => hnew b (by have := (World.ownsRow.lt ho4 b hb).1; omega))
            (fun s1 hs1 => by show (matchD n s1.ts _ _ _ _).length = _; rw [hs1, hpl2])
            (fun s1 k s2 m' X args hs1 h => by
              obtain ⟨i, t, h1, h2, h3⟩ := h
              rw [hs1] at h1 h2
              exact ⟨i, t, by rw [← hpl2]; exact h1, h2, h3⟩)
            (fun s1 k s2 m' X args h => by
              obtain ⟨i, t, h1, h2, v, rfl, h3⟩ := h
              rfl)
          have hDm4 : ∀ E, E ∈ D :: Ds → W4.heap[E]? = some (.deferred (some [])) := fun E hE => k4.heap (Xk3.out.heap (XhDmd.out E hE) trivial) (by have := XhDle.out E hE; omega)
          obtain ⟨a4, c4, rfl⟩ := own_form ho4
          clear ho4 hpl2 hMV4 hnew
          have Xk4 := Lib.hid k4
          have XhS4 := Lib.hid hS4
          have Xhst4' := Lib.hid hst4'
          have Xhgo := Lib.hid hgo
          have XhDm4 := Lib.hid hDm4
          have Xeg2 := Lib.hid eg2
          clear k4 hS4 hst4' hgo hDm4 eg2
          go_wp2_with fail
          refine XhK1.out _ _ (fun _ => XhS4.out) ?_
          refine hoist_one (i := 16) rfl (by kernel_rfl) (fun K hK => ?_)
          have XhK2 := Lib.hid hK
          clear hK
          go_wp2_with fail
          refine Xhgo.out.mono ?_
          rintro e W5' ⟨rfl, s2, hinv5, hsm5⟩
          have ksm : Keep (fun b => s'.tag b = none ∧ b < W4.heap.size) W4 W5' := hsm5.keep
          have hS5 : W5'.cell? ⟨b20, 0, none⟩ = some (.int .i64 (pl.length : Int)) ∧ W5'.cell? ⟨b18, 0, none⟩ = some (.slice aW pl.length cW) ∧ W5'.cell? ⟨bT, 0, none⟩ = some (.pointer (some ⟨B, 0, none⟩)) ∧ W5'.cell? ⟨bT + 1, 0, none⟩ = some (.pointer (some ⟨Bf, 0, none⟩)) := by
            obtain ⟨q1, q2, q3, q4⟩ := Xhltd.out
            exact ⟨ksm.cell XhS4.out.1 ⟨Xo20.out.1, by simp only; omega⟩, ksm.cell XhS4.out.2.1 ⟨Xo18.out.1, by simp only; omega⟩, ksm.cell XhS4.out.2.2.1 ⟨XoT.out.1, by simp only; omega⟩, ksm.cell XhS4.out.2.2.2 ⟨XoR.out.1, by simp only; omega⟩⟩
          have hst5' := Xhst4'.out.same hinv5 hsm5
          have hDs5 : ∀ E, E ∈ D :: Ds → w.heap.size ≤ E ∧ Outside s2 F' E := fun E hE => ⟨(XhDs'.out E hE).1, hsm5.free (by have := XhDle.out E hE; omega) (XhDs'.out E hE).2.1, (XhDs'.out E hE).2.2⟩
          have hDm5' : MarksAt (D :: Ds) (fun _ => False) W5' := fun E hE => ⟨fun h => h, ksm.heap (XhDm4.out E hE) ⟨(XhDs'.out E hE).2.1, by have := XhDle.out E hE; omega⟩⟩
          have hlen5 : s2.ts.length ≤ tuples.length + 1 * more.length := by rw [hsm5.same]; omega
          have XhS5 := Lib.hid hS5
          have Xhst5' := Lib.hid hst5'
          have XhDs5 := Lib.hid hDs5
          have XhDm5' := Lib.hid hDm5'
          have Xhinv5 := Lib.hid hinv5
          have Xhsm5 := Lib.hid hsm5
          have Xksm := Lib.hid ksm
          clear hS5 hst5' hDs5 hDm5' hinv5 hsm5 ksm
          go_wp2_with fail
          refine XhK2.out _ _ (fun _ => XhS5.out) ?_
          refine hoist_take (i := 17) (v := ?_) rfl (by kernel_rfl) (by kernel_rfl) (by kernel_rfl) (by kernel_rfl) (fun _ _ _ h => h) XhS5.out (Or.inl ⟨by kernel_rfl, ?_⟩) ?_
          rotate_left
          · intro Wq hWq
            obtain ⟨x0, x1, x2, x3⟩ := hWq
            go_simp
            try simp only [bne_self_eq_false]
            try with_reducible rfl
          try simp only [Act.put, List.getElem_toArray, List.getElem_cons_zero, List.getElem_cons_succ, List.setIfInBounds_toArray, List.set_cons_zero, List.set_cons_succ]
          refine hoist_take (i := 18) (v := ?_) rfl (by kernel_rfl) (by kernel_rfl) (by kernel_rfl) (by kernel_rfl) (fun _ _ _ h => h) XhS5.out (Or.inl ⟨by kernel_rfl, ?_⟩) ?_
          rotate_left
          · intro Wq hWq
            obtain ⟨x0, x1, x2, x3⟩ := hWq
            go_simp
            try simp only [bne_self_eq_false]
            try with_reducible rfl
          try simp only [Act.put, List.getElem_toArray, List.getElem_cons_zero, List.getElem_cons_succ, List.setIfInBounds_toArray, List.set_cons_zero, List.set_cons_succ]
          refine hoist_done (by kernel_rfl) ?_
          refine onlyN_mk ?_
          clear XhK0 XhK1 XhK2 XhSd XhS3 XhS4 XhS5 Xhmke Xhmr Xhgo
          gi_wp2
          refine ⟨⟨_, _, _, _, _, _, _, _, _, _, _, _, _, _, _, _, _, _, _, _, _, _, _, _, _, _, _, _, _, _, _, _, _, _, _, _, _, _, _, _, _, _, _, _, _, _, _, _, _, _, _, _, _, _, _, _, _, _, _, _, _, _, _, _, _, _, _, _, _, _, _, _, _, _, _, _, _, _, _, _, _, _, _, _, _, _, _, _, _, _, _, _, _, _, _, _, _, _, _, _, _, _, _, _, _, _, _, _, _, _, _, _, _, _, _, _, _, _, _, _, _, _, _, _, _, _, _, _, _, _, _, _, _, _, _, _, ⟨1, D :: Ds, s2, F', vL', svs', by omega, rfl, rfl, rfl, rfl, rfl, rfl, rfl, rfl, Xhst5'.out, hlen5, fun h => by omega, rfl, XhDn'.out, XhDs5.out, XhDm5'.out⟩, rfl⟩, ?_⟩
          simp [intOf]
      · have hwz := Xhst.out.keep.size
        have hiC : IntsIn m wr (.slice ac cols.length cc) cols := ints_stay Xhc.out Xhst.out.keep hm
        have hiK : IntsIn m wr (.slice ak key.length ck) key := ints_stay Xhk.out Xhst.out.keep hm
        have hmt := refMatch_any (Xhst.out.both.ref.lists (by have := Xhst.out.both.rel.few; omega)) Xhst.out.both.rel.own.len m _ _ cols key 0 to hiC hiK (by omega)
        have XhiC := Lib.hid hiC
        have XhiK := Lib.hid hiK
        have Xhmt := Lib.hid hmt
        clear hiC hiK hmt
        gi_wp2
        refine ⟨trivial, rfl, (callsIn_wide.2 Xhmt.out).mono ?_⟩
        rintro e W1 ⟨vW, rfl, kW1, hoW⟩
        obtain ⟨pl, hpl⟩ : ∃ pl, matchD n s.ts cols key 0 to = pl := ⟨_, rfl⟩
        rw [hpl] at hoW
        have hplen : pl.length ≤ 67108864 := by rw [← hpl]; exact Nat.le_trans (matchD_len _ _ _ _ _ _) Xhst.out.both.rel.few
        have hz1 := kW1.size
        have hst1 := Xhst.out.stay kW1 (fun b hb _ => hb)
        have hoWo : ∀ b, vW.ownBlock = some b → Outside s F b ∧ wr.heap.size ≤ b := fun b hb => by
          have h1 := (World.ownsRow.lt hoW b hb).1
          refine ⟨⟨?_, fun hF => by have := Xhst.out.both.lt b hF; omega⟩, h1⟩
          cases hT : s.tag b with
          | none => rfl
          | some T => have := Xhst.out.both.rel.own.lt b T hT; omega
        obtain ⟨aW, cW, rfl⟩ := own_form hoW
        obtain ⟨b18, hb18⟩ : ∃ b18, W1.heap.size = b18 := ⟨_, rfl⟩
        obtain ⟨W2, hW2⟩ : ∃ W2, W1.alloc (.cells #[.slice aW pl.length cW] 23) = W2 := ⟨_, rfl⟩
        have k2 : Keep (fun _ => True) W1 W2 := by rw [← hW2]; exact Keep.alloc _ _ _
        have z2 : W2.heap.size = b18 + 1 := by rw [← hW2, ← hb18]; simp
        have g18 : BoxAt W2 b18 23 (.slice aW pl.length cW) := by rw [← hW2, ← hb18]; exact new_block _ _
        have hst2 := hst1.stay k2 (fun _ _ _ => trivial)
        have hoW2 := own_kept hoW k2 (fun _ _ => trivial)
        obtain ⟨Wd, hWd⟩ : ∃ Wd, W2.drew = Wd := ⟨_, rfl⟩
        have kd : Keep (fun _ => True) W2 Wd := by rw [← hWd]; exact Keep.drew _ _
        have hstd := hst2.stay kd (fun _ _ _ => trivial)
        have g18d := g18.keep kd trivial
        have hoWd := own_kept hoW2 kd (fun _ _ => trivial)
        have kwd : Keep (fun b => b < wr.heap.size) wr Wd := kW1.trans ((k2.mono fun _ _ _ => trivial).trans (kd.mono fun _ _ _ => trivial))
        have hiCd := ints_stay XhiC.out (m := m) (kwd.mono fun b _ h => by omega) (Nat.le_refl _)
        have hiKd := ints_stay XhiK.out (m := m) (kwd.mono fun b _ h => by omega) (Nat.le_refl _)
        have hS1 : Wd.cell? ⟨bT, 0, none⟩ = some (.pointer (some ⟨B, 0, none⟩)) := hstd.hT.cell
        have lTd := hstd.hT.lt
        have zd : Wd.heap.size = b18 + 1 := by rw [← hWd]; simpa using z2
        have hmd : m ≤ Wd.heap.size := by omega
        have hlC := lent_any m _ cols Wd hiCd hmd
        clear kW1 hoW hst1 k2 g18 hst2 hoW2 kd z2
        have Xhpl := Lib.hid hpl
        have XhoWo := Lib.hid hoWo
        have Xhb18 := Lib.hid hb18
        have XhW2 := Lib.hid hW2
        have Xhstd := Lib.hid hstd
        have Xg18d := Lib.hid g18d
        have XhoWd := Lib.hid hoWd
        have Xkwd := Lib.hid kwd
        have XhiCd := Lib.hid hiCd
        have XhiKd := Lib.hid hiKd
        have XhS1 := Lib.hid hS1
        have Xzd := Lib.hid zd
        have XhlC := Lib.hid hlC
        clear hpl hoWo hb18 hW2 hstd g18d hoWd kwd hiCd hiKd hS1 zd hlC
        gi_wp2
        rw [XhW2.out, Xhb18.out]
        subst hWd
        refine wpIn_onlyN ?_
        refine wpIn_wide.2 ?_
        refine region_hoist rfl (fun W => W.cell? ⟨bT, 0, none⟩ = some (.pointer (some ⟨B, 0, none⟩))) [] ?_
        refine hoist_take (i := 0) (v := ?_) rfl (by kernel_rfl) (by kernel_rfl) (by kernel_rfl) (by kernel_rfl) (fun _ _ _ h => h) XhS1.out (Or.inl ⟨by rfl, ?_⟩) ?_
        rotate_left
        · intro Wq hWq
          obtain x0 := hWq
          go_simp
          try with_reducible rfl
        try simp only [Act.put, List.getElem_toArray, List.getElem_cons_zero, List.getElem_cons_succ, List.setIfInBounds_toArray, List.set_cons_zero, List.set_cons_succ]
        refine hoist_take (i := 1) (v := ?_) rfl (by kernel_rfl) (by kernel_rfl) (by kernel_rfl) (by kernel_rfl) (fun _ _ _ h => h) XhS1.out (Or.inl ⟨by rfl, ?_⟩) ?_
        rotate_left
        · intro Wq hWq
          obtain x0 := hWq
          go_simp
          try with_reducible rfl
        try simp only [Act.put, List.getElem_toArray, List.getElem_cons_zero, List.getElem_cons_succ, List.setIfInBounds_toArray, List.set_cons_zero, List.set_cons_succ]
        refine hoist_take (i := 3) (v := ?_) rfl (by kernel_rfl) (by kernel_rfl) (by kernel_rfl) (by kernel_rfl) (fun _ _ _ h => h) XhS1.out (Or.inl ⟨by rfl, ?_⟩) ?_
        rotate_left
        · intro Wq hWq
          obtain x0 := hWq
          go_simp
          try with_reducible rfl
        try simp only [Act.put, List.getElem_toArray, List.getElem_cons_zero, List.getElem_cons_succ, List.setIfInBounds_toArray, List.set_cons_zero, List.set_cons_succ]
        refine hoist_take (i := 5) (v := ?_) rfl (by kernel_rfl) (by kernel_rfl) (by kernel_rfl) (by kernel_rfl) (fun _ _ _ h => h) XhS1.out (Or.inl ⟨by rfl, ?_⟩) ?_
        rotate_left
        · intro Wq hWq
          obtain x0 := hWq
          go_simp
          try with_reducible rfl
        try simp only [Act.put, List.getElem_toArray, List.getElem_cons_zero, List.getElem_cons_succ, List.setIfInBounds_toArray, List.set_cons_zero, List.set_cons_succ]
        refine hoist_one (i := 2) rfl (by kernel_rfl) (fun K hK => ?_)
        have XhK0 := Lib.hid hK
        clear hK
        go_wp2_with fail
        refine XhlC.out.mono ?_
        rintro e W3 ⟨v3, rfl, k3, hL3⟩
        have hS3 := k3.cell XhS1.out lTd
        have XhS3 := Lib.hid hS3
        clear hS3
        have hz3 := k3.size
        have hiK3 := ints_stay XhiKd.out (m := m) (k3.mono fun b _ h => by omega) (Nat.le_refl _)
        have hlK := lent_any m _ key W3 hiK3 (by omega)
        obtain ⟨g3, cap3, rfl, ho3⟩ := id hL3
        clear ho3
        have Xk3 := Lib.hid k3
        have XhL3 := Lib.hid hL3
        have XhlK := Lib.hid hlK
        have XhiK3 := Lib.hid hiK3
        clear k3 hL3 hlK hiK3
        go_wp2_with fail
        refine XhK0.out _ _ (fun _ => XhS3.out) ?_
        refine hoist_one (i := 4) rfl (by kernel_rfl) (fun K hK => ?_)
        have XhK1 := Lib.hid hK
        clear hK
        go_wp2_with fail
        refine XhlK.out.mono ?_
        rintro e W4 ⟨v4, rfl, k4, hL4⟩
        have hS4 := k4.cell XhS3.out (by simp only; omega)
        have hz4 := k4.size
        have hL34 := XhL3.out.keep k4 (fun b _ hb => hb)
        have hiC4 := ints_wider (LentIn.ints (l := cols) hL34 hlc) (Nat.le_refl _)
        have hiK4 := ints_wider (LentIn.ints (l := key) hL4 hlk) (Nat.le_refl _)
        have hmk := relMatch_any W4 B W4.heap.size _ _ cols key 0 to hiC4 hiK4 (Nat.le_refl _)
        obtain ⟨g4, cap4, rfl, ho4⟩ := id hL4
        have kd4 : Keep (fun b => b < W2.drew.heap.size) W2.drew W4 := Xk3.out.trans (k4.mono fun b _ h => by omega)
        clear ho4 hL34 hiC4 hiK4
        have Xk4 := Lib.hid k4
        have XhL4 := Lib.hid hL4
        have XhS4 := Lib.hid hS4
        have Xhmk := Lib.hid hmk
        have Xkd4 := Lib.hid kd4
        clear k4 hL4 hS4 hmk kd4
        go_wp2_with fail
        refine XhK1.out _ _ (fun _ => XhS4.out) ?_
        refine hoist_one (i := 6) rfl (by kernel_rfl) (fun K hK => ?_)
        have XhK2 := Lib.hid hK
        clear hK
        go_wp2_with fail
        refine Xhmk.out.mono ?_
        rintro e W5 ⟨bR', bL', bK', bT', bF', vl', vk', rfl, k5, hMV⟩
        have hS5 := k5.cell XhS4.out trivial
        have Xk5 := Lib.hid k5
        have XhMV := Lib.hid hMV
        have XhS5 := Lib.hid hS5
        clear k5 hMV hS5
        go_wp2_with fail
        refine XhK2.out _ _ (fun _ => XhS5.out) ?_
        refine hoist_one (i := 7) rfl (by kernel_rfl) (fun K hK => ?_)
        have XhK3 := Lib.hid hK
        clear hK
        go_wp2_with fail
        refine XhK3.out _ _ (fun _ => XhS5.out) ?_
        refine hoist_done (by kernel_rfl) ?_
        refine onlyN_mk ?_
        clear XhK0 XhK1 XhK2 XhK3 XhS1 XhS3 XhS4 XhlC XhlK XhL3 XhL4 Xhmk Xhmt XhiK3
        have kd5 : Keep (fun b => b < W2.drew.heap.size) W2.drew W5 := Xkd4.out.trans (Xk5.out.mono fun _ _ _ => trivial)
        have zd5 := kd5.size
        have hst5 := Xhstd.out.stay kd5 (fun b hb _ => hb)
        have g185 := Xg18d.out.keep kd5 (by have := Xg18d.out.lt; simpa using this)
        have hoW5 := own_kept XhoWd.out kd5 (fun b hb => (World.ownsRow.lt XhoWd.out b hb).2)
        have z45 := Xk5.out.size
        have hDm5 : ∀ E, E ∈ Ds → W5.heap[E]? = some (.deferred (some [])) := fun E hE => kd5.heap (Xkwd.out.heap (XhDm.out E hE).2 (XhDlt.out E hE)) (Nat.lt_of_lt_of_le (XhDlt.out E hE) Xkwd.out.size)
        clear kd5
        have XhDm5 := Lib.hid hDm5
        have Xhst5 := Lib.hid hst5
        have Xg185 := Lib.hid g185
        have XhoW5 := Lib.hid hoW5
        clear hDm5 hst5 g185 hoW5
        obtain ⟨lb, hlb⟩ : ∃ lb : Array Value, #[.pointer (some ⟨bR', 0, none⟩), .pointer (some ⟨bL', 0, none⟩), .pointer (some ⟨bK', 0, none⟩), .pointer (some ⟨bT', 0, none⟩), .pointer (some ⟨bF', 0, none⟩)] = lb := ⟨_, rfl⟩
        have hnil : ∀ W, (binOp .eql 32 (.func (.func 32) #[] lb) .nilFunc).run Try.prog W = .ok (.bool false) W := fun W => run_eql_func_nil Try.underlying32 W _ _ _
        rw [hlb]
        obtain ⟨N, hNd⟩ : ∃ N : RelS → Nat, N = (fun s => (matchD n s.ts cols key 0 to).length) := ⟨_, rfl⟩
        obtain ⟨A, hAd⟩ : ∃ A : RelS → Nat → RelS → Nat → World → Array Value → Prop, A = (fun s0 k s m X args => ∃ i t, (matchD n s0.ts cols key 0 to)[k]? = some i ∧ s0.ts[i]? = some t ∧ Told i t m X args) := ⟨_, rfl⟩
        obtain ⟨V, hVd⟩ : ∃ V : World → Prop, V = MatchV W4.heap.size W5.heap.size bR' bL' bK' bT' bF' B vl' vk' 0 to cols key := ⟨_, rfl⟩
        obtain ⟨U, hUd⟩ : ∃ U : Nat → Prop, U = fun b => W4.heap.size ≤ b ∧ b < W5.heap.size := ⟨_, rfl⟩
        have hit : IterG Try.prog 32 lb (relSys B n P KM) N A V U := by
          rw [← hlb, hNd, hAd, hVd, hUd]
          exact relMatch_iter B n P KM W4.heap.size W5.heap.size bR' bL' bK' bT' bF' vl' vk' 0 to cols key Xokk.out hlc hlk
        have eg := enters Try.func32 (by kernel_rfl) rfl
        have hst6 := Xhst5.out
        have g186 := Xg185.out
        have hoW5 := XhoW5.out
        have hDm6 := XhDm5.out
        have z46 : b18 + 1 ≤ W4.heap.size := by have := Xzd.out; have := Xkd4.out.size; omega
        have hV6 : V W5 := by rw [hVd]; exact XhMV.out
        have hVU : ∀ X Y, V X → Keep U X Y → V Y := fun X Y hv hk => by
          rw [hVd] at hv ⊢
          rw [hUd] at hk
          exact hv.keep hk (fun b h1 h2 => ⟨h1, h2⟩)
        have hU6 : ∀ b, U b → W4.heap.size ≤ b ∧ b < W5.heap.size := fun b hb => by
          rw [hUd] at hb
          exact hb
        have hNs : N s = pl.length := by rw [hNd, ← Xhpl.out]
        have hA : ∀ k s' m X args, A s k s' m X args → ∃ i t, pl[k]? = some i ∧ s.ts[i]? = some t ∧ Told i t m X args := fun k s' m X args h => by
          rw [hAd] at h
          rw [← Xhpl.out]
          exact h
        have hAs : ∀ s0 k s' m X args, A s0 k s' m X args → args.size = 2 := fun s0 k s' m X args h => by
          rw [hAd] at h
          obtain ⟨i, t, _, _, v, rfl, _⟩ := h
          rfl
        clear hNd hAd hVd hUd
        have XhDm6 := Lib.hid hDm6
        have Xhst6 := Lib.hid hst6
        have Xg186 := Lib.hid g186
        have XhoW5 := Lib.hid hoW5
        have Xhit := Lib.hid hit
        have Xeg := Lib.hid eg
        have XhV6 := Lib.hid hV6
        have XhVU := Lib.hid hVU
        have XhU6 := Lib.hid hU6
        have XhNs := Lib.hid hNs
        have XhA := Lib.hid hA
        have XhAs := Lib.hid hAs
        have Xhlb := Lib.hid hlb
        clear hDm6 hst6 g186 hoW5 hit eg hV6 hVU hU6 hNs hA hAs hlb
        gi_wp2
        obtain ⟨b20, hb20⟩ : ∃ b20, W5.heap.size = b20 := ⟨_, rfl⟩
        obtain ⟨W7, hW7⟩ : ∃ W7, W5.alloc (.cells #[.int .i64 0] 3) = W7 := ⟨_, rfl⟩
        have k7 : Keep (fun _ => True) W5 W7 := by rw [← hW7]; exact Keep.alloc _ _ _
        have z7 : W7.heap.size = b20 + 1 := by rw [← hW7, ← hb20]; simp
        have g20 : BoxAt W7 b20 3 (.int .i64 ((0 : Nat) : Int)) := by rw [← hW7, ← hb20]; exact new_block _ _
        have hst7 := Xhst6.out.stay k7 (fun _ _ _ => trivial)
        have g187 := Xg186.out.keep k7 trivial
        have hoW7 := own_kept XhoW5.out k7 (fun _ _ => trivial)
        have hV7 := XhVU.out _ _ XhV6.out (k7.mono fun _ _ _ => trivial)
        have hfr7 : ∀ b, wr.heap.size ≤ b → Outside s F b := fun b hb => ⟨by
          cases hT : s.tag b with
          | none => rfl
          | some T => have := Xhst.out.both.rel.own.lt b T hT; omega, fun hF => by have := Xhst.out.both.lt b hF; omega⟩
        have hz15 : wr.heap.size ≤ W5.heap.size := by have := Xzd.out; have := Xhb18.out; omega
        have hb18w : wr.heap.size ≤ b18 := by have := Xhb18.out; omega
        obtain ⟨Q, hQd⟩ : ∃ Q : Nat → Prop, Q = fun b => b = b18 ∨ Value.ownBlock (.slice aW pl.length cW) = some b ∨ b ∈ Ds ∨ U b ∨ b < w.heap.size ∨ b = b7 ∨ b = b7 + 1 ∨ b = bT ∨ b = bT + 1 := ⟨_, rfl⟩
        have hQo : ∀ b, Q b → Outside s F b ∧ b < W7.heap.size ∧ b ≠ b20 := fun b hb => by
          rw [hQd] at hb
          have e20 := hb20
          obtain ⟨v10, hv10⟩ := hst7.h10
          have q1 := Xg186.out.lt
          rcases hb with h | h | h | h | h | h | h | h | h
          · subst h; exact ⟨hfr7 _ hb18w, by omega, by omega⟩
          · have h1 := XhoWo.out b h
            have h2 := (World.ownsRow.lt XhoW5.out b h).2
            exact ⟨h1.1, by omega, by omega⟩
          · have h1 := XhDlt.out b h
            exact ⟨(XhDs.out b h).2, by omega, by omega⟩
          · have h1 := XhU6.out b h
            exact ⟨hfr7 _ (by omega), by omega, by omega⟩
          · have := Xhst6.out.keep.size
            exact ⟨Xhst.out.out b (.inl h), by omega, by omega⟩
          · have := Xhst6.out.h7.lt
            exact ⟨Xhst.out.out b (by simp [h]), by omega, by omega⟩
          · obtain ⟨v, hv⟩ := Xhst6.out.h10
            have := hv.lt
            exact ⟨Xhst.out.out b (by simp [h]), by omega, by omega⟩
          · have := Xhst6.out.hT.lt
            exact ⟨Xhst.out.out b (by simp [h]), by omega, by omega⟩
          · have := Xhst6.out.hR.lt
            exact ⟨Xhst.out.out b (by simp [h]), by omega, by omega⟩
        have hUQ : ∀ b, U b → Q b := fun b hb => by rw [hQd]; simp [hb]
        have h0 : MwRd W7 Q b20 n Bf s.ts.length more.length s 0 s W7 := by
          have e20 := hb20
          exact ⟨⟨F, vL, svs, hst7.both.ref, fun b hF => ⟨hst7.both.apart b hF, hst7.both.lt b hF, .inl (hst7.both.lt b hF)⟩, fun b hq => (hQo b hq).1.2, (hfr7 b20 (by omega)).2⟩, g20, ⟨(hfr7 b20 (by omega)).1, fun b hq => (hQo b hq).1.1⟩, Keep.refl _ _, by omega, ⟨[], by simp⟩⟩
        have hinv7 : RelInv B n P KM s W7 := hst7.both.rel
        have hfree7 : ∀ b, W7.heap.size ≤ b → s.tag b = none := fun b hb => by
          have e20 := hb20
          exact (hfr7 b (by omega)).1
        have hDm7 : ∀ E, E ∈ Ds → W7.heap[E]? = some (.deferred (some [])) := fun E hE => k7.heap (XhDm6.out E hE) trivial
        clear k7
        have XhDm7 := Lib.hid hDm7
        have Xhb20 := Lib.hid hb20
        have XhW7 := Lib.hid hW7
        have Xhst7 := Lib.hid hst7
        have Xg187 := Lib.hid g187
        have XhoW7 := Lib.hid hoW7
        have XhV7 := Lib.hid hV7
        have Xhfr7 := Lib.hid hfr7
        have XhQd := Lib.hid hQd
        have XhQo := Lib.hid hQo
        have XhUQ := Lib.hid hUQ
        have Xh0 := Lib.hid h0
        have Xhinv7 := Lib.hid hinv7
        have Xhfree7 := Lib.hid hfree7
        have Xg20 := Lib.hid g20
        clear hDm7 hb20 hW7 hst7 g187 hoW7 hV7 hfr7 hQd hQo hUQ h0 hinv7 hfree7 g20
        gi_wp2
        rw [XhW7.out, Xhb20.out]
        refine range_outerG (relSys B n P KM) s (gf := 32) (lb := lb) rfl Xeg.out Xhit.out (fun b hb => (XhQo.out b (XhUQ.out b hb)).1.1) (fun γ0 k γ m X args h => XhAs.out _ _ _ _ _ _ h) Xhinv7.out Xhfree7.out XhV7.out (fun X Y hv hk => XhVU.out _ _ hv (hk.mono fun b _ hu => (XhQo.out b (XhUQ.out b hu)).2.1))
          (fun k s' X => MwRd W7 Q b20 n Bf s.ts.length more.length s k s' X) (fun c k s' X => False) ?hI ?hIx ?hIs ?hIxs ?h0 ?round ?done ?stop
        case hI =>
          intro k s' X Y h hK
          exact h.on (fun b hq => (XhQo.out b hq).2.1) (by omega) hK
        case hIx => intro c k s' X Y h; exact h.elim
        case hIs =>
          intro k s' X s'' Y h hs
          exact h.it (fun b hq => (XhQo.out b hq).2.1) hs
        case hIxs => intro c k s' X s'' Y h; exact h.elim
        case h0 => exact Xh0.out
        case stop => intro D c k s' W _ _ _ _ _ h; exact h.elim
        case round =>
          rintro l k s' X0 X args hBl hlX hfl hk hR0 hist hinvX hVX hsz hAr
          obtain ⟨i, t, hpi, hti, v', rfl, hv1, hv2⟩ := XhA.out k s' _ X args hAr
          have hX := hR0.it (fun b hq => (XhQo.out b hq).2.1) hist
          obtain ⟨F', vL', svs', r1, r2, r3, r4⟩ := hR0.ref
          have hXz : X0.heap.size ≤ X.heap.size := hist.keep.size
          have hv0 : ∀ b, v'.ownBlock = some b → X0.heap.size ≤ b ∧ b < X.heap.size := fun b hb' => World.ownsRow.lt hv1 b hb'
          have hrefX := r1.keep hist.keep (fun b hF _ => (r2 b hF).1)
          have r2X : ∀ b, F' b → s'.tag b = none ∧ b < X.heap.size ∧ (b < W7.heap.size ∨ W7.heap.size + 2 ≤ b) := fun b hF => ⟨(r2 b hF).1, by have := (r2 b hF).2.1; omega, (r2 b hF).2.2⟩
          have hgF : ∀ b, v'.ownBlock = some b → ¬ F' b := fun b hb hF => by have := (r2 b hF).2.1; have := (hv0 b hb).1; omega
          obtain ⟨at', ct', rfl⟩ := own_form hv1
          clear r1 r2 hist hAr hR0
          have Xhpi := Lib.hid hpi
          have Xhti := Lib.hid hti
          have Xhv1 := Lib.hid hv1
          have XhX := Lib.hid hX
          have XhrefX := Lib.hid hrefX
          have Xr2X := Lib.hid r2X
          have Xr3 := Lib.hid r3
          have Xr4 := Lib.hid r4
          have Xhfl := Lib.hid hfl
          have XhinvX := Lib.hid hinvX
          have XhVX := Lib.hid hVX
          have Xhv0 := Lib.hid hv0
          have Xhk := Lib.hid hk
          have XhgF := Lib.hid hgF
          clear hpi hti hv1 hX hrefX r2X r3 r4 hfl hinvX hVX hv0 hk hgF
          gi_wp2
          refine ⟨Keep.refl _ _, fun Y hY hYs hYl => ?_⟩
          have hzY : Y.heap.size = X.heap.size := hYs
          have hll : l = W7.heap.size + 1 := Xhfl.out.2.2
          have hQl : ∀ b, Q b → b ≠ l := fun b hq => by have := (XhQo.out b hq).2.1; omega
          have hQt : ∀ b, (b = b18 ∨ Value.ownBlock (.slice aW pl.length cW) = some b ∨ b ∈ Ds ∨ U b ∨ b < w.heap.size ∨ b = b7 ∨ b = b7 + 1 ∨ b = bT ∨ b = bT + 1) → Q b := fun b hb => by rw [XhQd.out]; exact hb
          have kQY : Keep Q W7 Y := XhX.out.keep.trans (hY.mono fun b _ hq => hQl b hq)
          have hrefY := XhrefX.out.keep hY (fun b hF _ => by have := (Xr2X.out b hF).2.2; omega)
          have hinvY : RelInv B n P KM s' Y := RelInv.keep XhinvX.out (hY.mono fun b _ h e => by subst e; exact h Xhfl.out.1)
          have hboY : Both B n P KM s' F' Bf vL' svs' Y := ⟨hinvY, hrefY, fun b hF => (Xr2X.out b hF).1, fun b hF => by rw [hzY]; exact (Xr2X.out b hF).2.1⟩
          have hVY := XhVU.out _ _ XhVX.out (hY.mono fun b _ hu => hQl b (XhUQ.out b hu))
          have b20Y := XhX.out.box.keep hY (by omega)
          have b18Y := Xg187.out.keep kQY (hQt _ (by simp))
          have bTY := Xhst7.out.hT.keep kQY (hQt _ (by simp))
          have bRY := Xhst7.out.hR.keep kQY (hQt _ (by simp))
          have b7Y := Xhst7.out.h7.keep kQY (hQt _ (by simp))
          have hpY := own_kept XhoW7.out kQY (fun b hb => hQt b (.inr (.inl hb)))
          have hvY := own_kept Xhv1.out hY (fun b hb' => by have := (Xhv0.out b hb').1; omega)
          obtain ⟨us, hus⟩ := XhX.out.pre
          have htl : s'.ts[i]? = some t := by rw [hus, List.getElem?_append_left (List.getElem?_eq_some_iff.1 Xhti.out).1]; exact Xhti.out
          have hfew' := hinvY.few
          have hra := hrefY.lists (by omega)
          obtain ⟨aL, cL, rfl, hlL, hcL, heL⟩ := id hra.l
          obtain ⟨bL, oL, rfl, hbL, sv, hsvc, hsvi⟩ := heL i t htl
          have hil := (List.getElem?_eq_some_iff.1 htl).1
          have hkl := (List.getElem?_eq_some_iff.1 Xhpi.out).1
          obtain ⟨gp, hgp⟩ : ∃ gp, aW = some ⟨gp, 0, none⟩ := by
            rcases hpY.2 with ⟨_, e2⟩ | ⟨g, cap, cur, e1, _⟩
            · omega
            · injection e1 with q; exact ⟨g, q⟩
          have hpY' := hpY
          rw [hgp] at hpY'
          have cpk := own_elem hpY' k (natV i) (by rw [List.getElem?_map, Xhpi.out]; rfl)
          have cRL := cells_of_block hrefY.box 1 _ rfl
          simp only [Nat.zero_add, Nat.mul_one] at cRL hsvc
          have lenk := XhX.out.len
          have htsn : s.ts.length ≤ tuples.length + 2 * more.length := by omega
          have hfewA : s'.ts.length < 67108864 := by omega
          have fin : ∀ (s2 : RelS) (F2 : Nat → Prop) (vL2 : Value) (svs2 : List Value) (Y2 : World), Both B n P KM s2 F2 Bf vL2 svs2 Y2 → BothOn s' F' Y.heap.size s2 F2 → Keep (Outside s' F') Y Y2 → s2.ts.length ≤ s.ts.length + min (k + 1) more.length → (∃ us, s2.ts = s.ts ++ us) →
              bodyEndG (relSys B n P KM) W7.heap.size l X.heap.size V s' Y (Y2.setCell ⟨b20, 0, none⟩ (.int .i64 ((k : Int) + 1))) (fun s'' => MwRd W7 Q b20 n Bf s.ts.length more.length s (k + 1) s'' (Y2.setCell ⟨b20, 0, none⟩ (.int .i64 ((k : Int) + 1)))) ∧ BoxAt Y2 b20 3 (.int .i64 (k : Int)) := by
            intro s2 F2 vL2 svs2 Y2 hb2 ho2 hk2 hl2' hp2
            have o20 : Outside s' F' b20 := ⟨XhX.out.fr.1, Xr4.out⟩
            have hQO : ∀ b, Q b → Outside s' F' b := fun b hq => ⟨XhX.out.fr.2 b hq, Xr3.out b hq⟩
            have hz2 := hk2.size
            have o20' := ho2.out b20Y.lt o20
            have g20' := b20Y.keep hk2 o20
            have kZ : Keep (fun b => b ≠ b20) Y2 (Y2.setCell ⟨b20, 0, none⟩ (.int .i64 ((k : Int) + 1))) := Keep.setCell _ _ _ (by simp)
            have kYZ : Keep (fun b => Outside s' F' b ∧ b ≠ b20) Y (Y2.setCell ⟨b20, 0, none⟩ (.int .i64 ((k : Int) + 1))) := (hk2.mono fun b _ h => h.1).trans (kZ.mono fun b _ h => h.2)
            refine ⟨⟨s2, ?_, ?_, ho2.bd.mono (by omega), ?_, ?_⟩, g20'⟩
            · exact RelInv.keep hb2.rel (kZ.mono fun b _ h e => by subst e; exact h o20'.1)
            · exact XhVU.out _ _ hVY (kYZ.mono fun b _ hu => ⟨hQO b (XhUQ.out b hu), (XhQo.out b (XhUQ.out b hu)).2.2⟩)
            · refine kYZ.mono fun b _ h => ⟨⟨?_, fun hF => by have := (Xr2X.out b hF).2.2; omega⟩, by omega⟩
              by_cases hbl : b = l
              · subst hbl; exact Xhfl.out.1
              · have : b = W7.heap.size := by omega
                subst this; exact Xhfl.out.2.1
            · refine ⟨⟨F2, vL2, svs2, hb2.ref.keep kZ (fun b hF _ e => by subst e; exact o20'.2 hF), fun b hF => ⟨hb2.apart b hF, Nat.lt_of_lt_of_le (hb2.lt b hF) kZ.size, ?_⟩, fun b hq => (ho2.out (Nat.lt_of_lt_of_le (XhQo.out b hq).2.1 kQY.size) (hQO b hq)).2, o20'.2⟩, ?_, ⟨o20'.1, fun b hq => (ho2.out (Nat.lt_of_lt_of_le (XhQo.out b hq).2.1 kQY.size) (hQO b hq)).1⟩, kQY.trans (kYZ.mono fun b _ hq => ⟨hQO b hq, (XhQo.out b hq).2.2⟩), hl2', hp2⟩
              · rcases ho2.new b hF with h | h
                · exact (Xr2X.out b h).2.2
                · exact .inr (by omega)
              · have : ((k + 1 : Nat) : Int) = (k : Int) + 1 := by simp
                rw [this]; exact set_box _ g20'
          have hvi : IntsIn Y.heap.size Y (.slice at' t.length ct') t := own_ints hvY hv2
          obtain ⟨aS, cS, rfl, _, _, _⟩ := id hsvi
          have hsame := sameL_any Y.heap.size _ _ t t Y hvi hsvi (Nat.le_refl _)
          rw [decide_eq_true (Eq.refl t)] at hsame
          have c20 := b20Y.cell
          have l20 := b20Y.lt
          have c18 := b18Y.cell
          have l18 := b18Y.lt
          rw [hgp] at c18
          have cRb := bRY.cell
          have lRb := bRY.lt
          have lRB := heap_lt hrefY.box
          have lgp : gp < Y.heap.size := World.block_lt_of_cell? _ _ cpk
          have lbL : bL < Y.heap.size := World.block_lt_of_cell? _ _ hsvc
          have hkl1 : (k : Int) < pl.length := by omega
          have hk0 : (0 : Int) ≤ k := by omega
          have hi0 : (0 : Int) ≤ i := by omega
          have hil1 : (i : Int) < s'.ts.length := by omega
          have hk1 : (k : Int) + 1 ≤ 67108864 := by omega
          have hdk : decide (pl.length ≤ k) = false := decide_eq_false (by omega)
          have hdk2 : decide ((pl.length : Int) ≤ k) = false := decide_eq_false (by omega)
          clear hvi hsvi hra heL hlL hcL hpY hpY' htl hus
          have Xhsame := Lib.hid hsame
          have XhY := Lib.hid hY
          have XhYs := Lib.hid hYs
          have XhYl := Lib.hid hYl
          have XhzY := Lib.hid hzY
          have Xhll := Lib.hid hll
          have XhQl := Lib.hid hQl
          have XhQt := Lib.hid hQt
          have XkQY := Lib.hid kQY
          have XhrefY := Lib.hid hrefY
          have XhinvY := Lib.hid hinvY
          have XhboY := Lib.hid hboY
          have XhVY := Lib.hid hVY
          have Xb20Y := Lib.hid b20Y
          have Xb18Y := Lib.hid b18Y
          have XbTY := Lib.hid bTY
          have XbRY := Lib.hid bRY
          have Xb7Y := Lib.hid b7Y
          have XhvY := Lib.hid hvY
          have Xfin := Lib.hid fin
          have Xhgp := Lib.hid hgp
          have Xlenk := Lib.hid lenk
          clear hsame hY hYs hYl hzY hll hQl hQt kQY hrefY hinvY hboY hVY b20Y b18Y bTY bRY b7Y hvY fin hgp lenk
          gi_wp2
          refine ⟨trivial, rfl, (CallsIn.inRound l (callsIn_wide.2 Xhsame.out)).mono ?_⟩
          rintro e Y1 ⟨rfl, kS⟩
          clear c20 l20 c18 l18 cRb lRb lRB lgp lbL cpk cRL hsvc
          have XkS := Lib.hid kS
          clear kS
          gi_wp2
          have kYd : Keep (fun _ => True) Y Y1.drew := XkS.out.trans (Keep.drew _ _)
          have hboD := XhboY.out.keep kYd (fun _ _ _ => trivial)
          have b20D := Xb20Y.out.keep kYd trivial
          have bTD := XbTY.out.keep kYd trivial
          have bRD := XbRY.out.keep kYd trivial
          have b7D := Xb7Y.out.keep kYd trivial
          have kwD : Keep (fun b => b < w.heap.size) w Y1.drew := (Xhst7.out.keep.trans (XkQY.out.mono fun b _ h => XhQt.out b (by simp [h]))).trans (kYd.mono fun _ _ _ => trivial)
          have hQO : ∀ b, Q b → Outside s' F' b := fun b hq => ⟨XhX.out.fr.2 b hq, Xr3.out b hq⟩
          have o20 : Outside s' F' b20 := ⟨XhX.out.fr.1, Xr4.out⟩
          have o7 : Outside s' F' b7 := hQO _ (XhQt.out _ (by simp))
          have oT : Outside s' F' bT := hQO _ (XhQt.out _ (by simp))
          have oR : Outside s' F' (bT + 1) := hQO _ (XhQt.out _ (by simp))
          have hwlt : w.heap.size ≤ Y1.drew.heap.size := kwD.size
          have zYD : Y.heap.size ≤ Y1.drew.heap.size := kYd.size
          refine wpIn_onlyN ?_
          by_cases hkm : k < more.length
          · obtain ⟨u, hu⟩ : ∃ u, more[k]? = some u := ⟨_, List.getElem?_eq_getElem hkm⟩
            obtain ⟨bE, oE, rfl, hbE, sve, hec0, hei0⟩ := Xhe2.out k u hu
            have hecD := kwD.cell hec0 (by simp only; omega)
            rw [Nat.mul_one] at hecD
            have heiD := ints_stay hei0 kwD hm
            obtain ⟨aE, cE, rfl, _, _, _⟩ := id heiD
            have oE' : Outside s' F' bE := hQO _ (XhQt.out _ (by simp [show bE < w.heap.size by omega]))
            have had := adds_any hboD (by omega) m _ u heiD (by omega) (fun b hb => hQO _ (XhQt.out _ (by simp [show b < w.heap.size by omega]))) (Xok2.out u (List.mem_of_getElem? hu))
            have hS : Y1.drew.cell? ⟨b20, 0, none⟩ = some (.int .i64 (k : Int)) ∧ Y1.drew.cell? ⟨b7, 0, none⟩ = some (.slice (some ⟨bE, oE, none⟩) more.length c2) ∧ Y1.drew.cell? ⟨bT, 0, none⟩ = some (.pointer (some ⟨B, 0, none⟩)) ∧ Y1.drew.cell? ⟨bT + 1, 0, none⟩ = some (.pointer (some ⟨Bf, 0, none⟩)) ∧ Y1.drew.cell? ⟨bE, oE + k, none⟩ = some (.slice aE u.length cE) := ⟨b20D.cell, b7D.cell, bTD.cell, bRD.cell, hecD⟩
            have hdl : decide ((k : Int) < more.length) = true := decide_eq_true (by omega)
            have hkm1 : (k : Int) < more.length := by omega
            have l20d := b20D.lt
            have l7d := b7D.lt
            have lTd' := bTD.lt
            have lRd := bRD.lt
            have lEd : bE < Y1.drew.heap.size := by omega
            clear hec0 hei0 hecD heiD hbE kwD
            have XhS := Lib.hid hS
            have Xhad := Lib.hid had
            have XhboD := Lib.hid hboD
            have Xb20D := Lib.hid b20D
            have XbTD := Lib.hid bTD
            have XbRD := Lib.hid bRD
            have Xb7D := Lib.hid b7D
            have XhQO := Lib.hid hQO
            have Xo20 := Lib.hid o20
            have Xo7 := Lib.hid o7
            have XoT := Lib.hid oT
            have XoR := Lib.hid oR
            have XoE' := Lib.hid oE'
            have XkYd := Lib.hid kYd
            have Xhu := Lib.hid hu
            clear hS had hboD b20D bTD bRD b7D hQO o20 o7 oT oR oE' kYd hu
            refine region_hoistR rfl (fun W => W.cell? ⟨b20, 0, none⟩ = some (.int .i64 (k : Int)) ∧ W.cell? ⟨b7, 0, none⟩ = some (.slice (some ⟨bE, oE, none⟩) more.length c2) ∧ W.cell? ⟨bT, 0, none⟩ = some (.pointer (some ⟨B, 0, none⟩)) ∧ W.cell? ⟨bT + 1, 0, none⟩ = some (.pointer (some ⟨Bf, 0, none⟩)) ∧ W.cell? ⟨bE, oE + k, none⟩ = some (.slice aE u.length cE)) [] ?_
            refine hoist_takeR (i := 0) (v := ?_) (fun _ => trivial) (by kernel_rfl) rfl (by kernel_rfl) (by kernel_rfl) (by kernel_rfl) (by kernel_rfl) (fun _ _ _ h => h) XhS.out (Or.inl ⟨by kernel_rfl, ?_⟩) ?_
            rotate_left
            · intro Wq hWq
              obtain ⟨x0, x1, x2, x3, x4⟩ := hWq
              go_simp
              try simp only [hdl]
              try with_reducible rfl
            try simp only [Act.put, List.getElem_toArray, List.getElem_cons_zero, List.getElem_cons_succ, List.setIfInBounds_toArray, List.set_cons_zero, List.set_cons_succ]
            refine hoist_takeR (i := 1) (v := ?_) (fun _ => trivial) (by kernel_rfl) rfl (by kernel_rfl) (by kernel_rfl) (by kernel_rfl) (by kernel_rfl) (fun _ _ _ h => h) XhS.out (Or.inl ⟨by kernel_rfl, ?_⟩) ?_
            rotate_left
            · intro Wq hWq
              obtain ⟨x0, x1, x2, x3, x4⟩ := hWq
              go_simp
              try simp only [hdl]
              try with_reducible rfl
            try simp only [Act.put, List.getElem_toArray, List.getElem_cons_zero, List.getElem_cons_succ, List.setIfInBounds_toArray, List.set_cons_zero, List.set_cons_succ]
            refine hoist_takeR (i := 2) (v := ?_) (fun _ => trivial) (by kernel_rfl) rfl (by kernel_rfl) (by kernel_rfl) (by kernel_rfl) (by kernel_rfl) (fun _ _ _ h => h) XhS.out (Or.inl ⟨by kernel_rfl, ?_⟩) ?_
            rotate_left
            · intro Wq hWq
              obtain ⟨x0, x1, x2, x3, x4⟩ := hWq
              go_simp
              try simp only [hdl]
              try with_reducible rfl
            try simp only [Act.put, List.getElem_toArray, List.getElem_cons_zero, List.getElem_cons_succ, List.setIfInBounds_toArray, List.set_cons_zero, List.set_cons_succ]
            refine hoist_takeR (i := 3) (v := ?_) (fun _ => trivial) (by kernel_rfl) rfl (by kernel_rfl) (by kernel_rfl) (by kernel_rfl) (by kernel_rfl) (fun _ _ _ h => h) XhS.out (Or.inl ⟨by kernel_rfl, ?_⟩) ?_
            rotate_left
            · intro Wq hWq
              obtain ⟨x0, x1, x2, x3, x4⟩ := hWq
              go_simp
              try simp only [hdl]
              try with_reducible rfl
            try simp only [Act.put, List.getElem_toArray, List.getElem_cons_zero, List.getElem_cons_succ, List.setIfInBounds_toArray, List.set_cons_zero, List.set_cons_succ]
            refine hoist_takeR (i := 4) (v := ?_) (fun _ => trivial) (by kernel_rfl) rfl (by kernel_rfl) (by kernel_rfl) (by kernel_rfl) (by kernel_rfl) (fun _ _ _ h => h) XhS.out (Or.inl ⟨by kernel_rfl, ?_⟩) ?_
            rotate_left
            · intro Wq hWq
              obtain ⟨x0, x1, x2, x3, x4⟩ := hWq
              go_simp
              try simp only [hdl]
              try with_reducible rfl
            try simp only [Act.put, List.getElem_toArray, List.getElem_cons_zero, List.getElem_cons_succ, List.setIfInBounds_toArray, List.set_cons_zero, List.set_cons_succ]
            refine hoist_takeR (i := 5) (v := ?_) (fun _ => trivial) (by kernel_rfl) rfl (by kernel_rfl) (by kernel_rfl) (by kernel_rfl) (by kernel_rfl) (fun _ _ _ h => h) XhS.out (Or.inl ⟨by kernel_rfl, ?_⟩) ?_
            rotate_left
            · intro Wq hWq
              obtain ⟨x0, x1, x2, x3, x4⟩ := hWq
              go_simp
              try simp only [hdl]
              try with_reducible rfl
            try simp only [Act.put, List.getElem_toArray, List.getElem_cons_zero, List.getElem_cons_succ, List.setIfInBounds_toArray, List.set_cons_zero, List.set_cons_succ]
            refine hoist_takeR (i := 6) (v := ?_) (fun _ => trivial) (by kernel_rfl) rfl (by kernel_rfl) (by kernel_rfl) (by kernel_rfl) (by kernel_rfl) (fun _ _ _ h => h) XhS.out (Or.inl ⟨by kernel_rfl, ?_⟩) ?_
            rotate_left
            · intro Wq hWq
              obtain ⟨x0, x1, x2, x3, x4⟩ := hWq
              go_simp
              try simp only [hdl]
              try with_reducible rfl
            try simp only [Act.put, List.getElem_toArray, List.getElem_cons_zero, List.getElem_cons_succ, List.setIfInBounds_toArray, List.set_cons_zero, List.set_cons_succ]
            refine hoist_takeR (i := 7) (v := ?_) (fun _ => trivial) (by kernel_rfl) rfl (by kernel_rfl) (by kernel_rfl) (by kernel_rfl) (by kernel_rfl) (fun _ _ _ h => h) XhS.out (Or.inl ⟨by kernel_rfl, ?_⟩) ?_
            rotate_left
            · intro Wq hWq
              obtain ⟨x0, x1, x2, x3, x4⟩ := hWq
              go_simp
              try simp only [hdl]
              try with_reducible rfl
            try simp only [Act.put, List.getElem_toArray, List.getElem_cons_zero, List.getElem_cons_succ, List.setIfInBounds_toArray, List.set_cons_zero, List.set_cons_succ]
            refine hoist_takeR (i := 8) (v := ?_) (fun _ => trivial) (by kernel_rfl) rfl (by kernel_rfl) (by kernel_rfl) (by kernel_rfl) (by kernel_rfl) (fun _ _ _ h => h) XhS.out (Or.inl ⟨by kernel_rfl, ?_⟩) ?_
            rotate_left
            · intro Wq hWq
              obtain ⟨x0, x1, x2, x3, x4⟩ := hWq
              go_simp
              try simp only [hdl]
              try with_reducible rfl
            try simp only [Act.put, List.getElem_toArray, List.getElem_cons_zero, List.getElem_cons_succ, List.setIfInBounds_toArray, List.set_cons_zero, List.set_cons_succ]
            refine hoist_takeR (i := 9) (v := ?_) (fun _ => trivial) (by kernel_rfl) rfl (by kernel_rfl) (by kernel_rfl) (by kernel_rfl) (by kernel_rfl) (fun _ _ _ h => h) XhS.out (Or.inl ⟨by kernel_rfl, ?_⟩) ?_
            rotate_left
            · intro Wq hWq
              obtain ⟨x0, x1, x2, x3, x4⟩ := hWq
              go_simp
              try simp only [hdl]
              try with_reducible rfl
            try simp only [Act.put, List.getElem_toArray, List.getElem_cons_zero, List.getElem_cons_succ, List.setIfInBounds_toArray, List.set_cons_zero, List.set_cons_succ]
            refine hoist_takeR (i := 10) (v := ?_) (fun _ => trivial) (by kernel_rfl) rfl (by kernel_rfl) (by kernel_rfl) (by kernel_rfl) (by kernel_rfl) (fun _ _ _ h => h) XhS.out (Or.inl ⟨by kernel_rfl, ?_⟩) ?_
            rotate_left
            · intro Wq hWq
              obtain ⟨x0, x1, x2, x3, x4⟩ := hWq
              go_simp
              try simp only [hdl]
              try with_reducible rfl
            try simp only [Act.put, List.getElem_toArray, List.getElem_cons_zero, List.getElem_cons_succ, List.setIfInBounds_toArray, List.set_cons_zero, List.set_cons_succ]
            refine hoist_oneR (i := 11) rfl (by kernel_rfl) (fun K hK => ?_)
            have XhK4 := Lib.hid hK
            clear hK
            gi_wp2
            refine ⟨trivial, rfl, (CallsIn.inRound l (callsIn_wide.2 Xhad.out)).mono ?_⟩
            rintro e Y2 ⟨rfl, s2, F2, vL2, svs2, hbo2, hts2, ho2, k2⟩
            have hS2 : Y2.cell? ⟨b20, 0, none⟩ = some (.int .i64 (k : Int)) ∧ Y2.cell? ⟨b7, 0, none⟩ = some (.slice (some ⟨bE, oE, none⟩) more.length c2) ∧ Y2.cell? ⟨bT, 0, none⟩ = some (.pointer (some ⟨B, 0, none⟩)) ∧ Y2.cell? ⟨bT + 1, 0, none⟩ = some (.pointer (some ⟨Bf, 0, none⟩)) ∧ Y2.cell? ⟨bE, oE + k, none⟩ = some (.slice aE u.length cE) :=
              ⟨k2.cell XhS.out.1 Xo20.out, k2.cell XhS.out.2.1 Xo7.out, k2.cell XhS.out.2.2.1 XoT.out, k2.cell XhS.out.2.2.2.1 XoR.out, k2.cell XhS.out.2.2.2.2 XoE'.out⟩
            obtain ⟨us0, hus0⟩ := XhX.out.pre
            obtain ⟨us1, hus1⟩ := addT_pre n s'.ts u
            have hfin := Xfin.out s2 F2 vL2 svs2 Y2 hbo2 ⟨ho2.bd.mono zYD, fun b hb => (ho2.new b hb).elim .inl (fun h => .inr (by omega))⟩ ((XkYd.out.mono fun _ _ _ => trivial).trans k2) (by rw [hts2]; have := addT_len n s'.ts u; have := Xlenk.out; omega) ⟨us0 ++ us1, by rw [hts2, hus1, hus0, List.append_assoc]⟩
            have c20z := hfin.2.cell
            have l20z := hfin.2.lt
            have f20z := box_free hfin.2 0
            have hfinE := hfin.1
            clear hbo2 hts2 ho2 k2 hfin hus0 hus1
            have XhS2 := Lib.hid hS2
            have XhfinE := Lib.hid hfinE
            clear hS2 hfinE
            gi_wp2
            refine XhK4.out _ _ (fun _ => XhS2.out) ?_
            refine hoist_takeR (i := 12) (v := ?_) (fun _ => trivial) (by kernel_rfl) rfl (by kernel_rfl) (by kernel_rfl) (by kernel_rfl) (by kernel_rfl) (fun _ _ _ h => h) XhS2.out (Or.inl ⟨by kernel_rfl, ?_⟩) ?_
            rotate_left
            · intro Wq hWq
              obtain ⟨x0, x1, x2, x3, x4⟩ := hWq
              go_simp
              try simp only [hdl]
              try with_reducible rfl
            try simp only [Act.put, List.getElem_toArray, List.getElem_cons_zero, List.getElem_cons_succ, List.setIfInBounds_toArray, List.set_cons_zero, List.set_cons_succ]
            refine hoist_takeR (i := 13) (v := ?_) (fun _ => trivial) (by kernel_rfl) rfl (by kernel_rfl) (by kernel_rfl) (by kernel_rfl) (by kernel_rfl) (fun _ _ _ h => h) XhS2.out (Or.inl ⟨by kernel_rfl, ?_⟩) ?_
            rotate_left
            · intro Wq hWq
              obtain ⟨x0, x1, x2, x3, x4⟩ := hWq
              go_simp
              try simp only [hdl]
              try with_reducible rfl
            try simp only [Act.put, List.getElem_toArray, List.getElem_cons_zero, List.getElem_cons_succ, List.setIfInBounds_toArray, List.set_cons_zero, List.set_cons_succ]
            refine hoist_doneR (by kernel_rfl) ?_
            refine onlyN_mk ?_
            clear XhK4 XhS XhS2 Xhad
            gi_wp2
            exact XhfinE.out
          · have hdl : decide ((k : Int) < more.length) = false := decide_eq_false (by omega)
            have hkm1 : ¬ (k : Int) < more.length := by omega
            have hS : Y1.drew.cell? ⟨b20, 0, none⟩ = some (.int .i64 (k : Int)) ∧ Y1.drew.cell? ⟨b7, 0, none⟩ = some (.slice a2 more.length c2) := ⟨b20D.cell, b7D.cell⟩
            have hfin := Xfin.out s' F' _ svs' Y1.drew hboD (BothOn.refl _ _ _) (kYd.mono fun _ _ _ => trivial) (by have := Xlenk.out; omega) XhX.out.pre
            have c20z := hfin.2.cell
            have l20z := hfin.2.lt
            have f20z := box_free hfin.2 0
            have hfinE := hfin.1
            have l20d := b20D.lt
            have l7d := b7D.lt
            obtain ⟨Y2, hY2⟩ : ∃ Y2, Y1.drew = Y2 := ⟨_, rfl⟩
            rw [hY2] at hS hfinE c20z l20z f20z l20d l7d
            clear hfin kwD
            clear hboD
            have XhS := Lib.hid hS
            have Xb20D := Lib.hid b20D
            have XbTD := Lib.hid bTD
            have XbRD := Lib.hid bRD
            have Xb7D := Lib.hid b7D
            have XhQO := Lib.hid hQO
            have Xo20 := Lib.hid o20
            have Xo7 := Lib.hid o7
            have XoT := Lib.hid oT
            have XoR := Lib.hid oR
            have XkYd := Lib.hid kYd
            have XhfinE := Lib.hid hfinE
            have Xz7 := Lib.hid z7
            clear hS b20D bTD bRD b7D hQO o20 o7 oT oR kYd hfinE z7
            refine region_hoistR rfl (fun W => W.cell? ⟨b20, 0, none⟩ = some (.int .i64 (k : Int)) ∧ W.cell? ⟨b7, 0, none⟩ = some (.slice a2 more.length c2)) [] ?_
            rw [hY2]
            clear hY2 hwlt zYD
            refine hoist_takeR (i := 0) (v := ?_) (fun _ => trivial) (by kernel_rfl) rfl (by kernel_rfl) (by kernel_rfl) (by kernel_rfl) (by kernel_rfl) (fun _ _ _ h => h) XhS.out (Or.inl ⟨by kernel_rfl, ?_⟩) ?_
            rotate_left
            · intro Wq hWq
              obtain ⟨x0, x1⟩ := hWq
              go_simp
              try simp only [hdl]
              try with_reducible rfl
            try simp only [Act.put, List.getElem_toArray, List.getElem_cons_zero, List.getElem_cons_succ, List.setIfInBounds_toArray, List.set_cons_zero, List.set_cons_succ]
            refine hoist_takeR (i := 1) (v := ?_) (fun _ => trivial) (by kernel_rfl) rfl (by kernel_rfl) (by kernel_rfl) (by kernel_rfl) (by kernel_rfl) (fun _ _ _ h => h) XhS.out (Or.inl ⟨by kernel_rfl, ?_⟩) ?_
            rotate_left
            · intro Wq hWq
              obtain ⟨x0, x1⟩ := hWq
              go_simp
              try simp only [hdl]
              try with_reducible rfl
            try simp only [Act.put, List.getElem_toArray, List.getElem_cons_zero, List.getElem_cons_succ, List.setIfInBounds_toArray, List.set_cons_zero, List.set_cons_succ]
            refine hoist_takeR (i := 2) (v := ?_) (fun _ => trivial) (by kernel_rfl) rfl (by kernel_rfl) (by kernel_rfl) (by kernel_rfl) (by kernel_rfl) (fun _ _ _ h => h) XhS.out (Or.inl ⟨by kernel_rfl, ?_⟩) ?_
            rotate_left
            · intro Wq hWq
              obtain ⟨x0, x1⟩ := hWq
              go_simp
              try simp only [hdl]
              try with_reducible rfl
            try simp only [Act.put, List.getElem_toArray, List.getElem_cons_zero, List.getElem_cons_succ, List.setIfInBounds_toArray, List.set_cons_zero, List.set_cons_succ]
            refine hoist_takeR (i := 3) (v := ?_) (fun _ => trivial) (by kernel_rfl) rfl (by kernel_rfl) (by kernel_rfl) (by kernel_rfl) (by kernel_rfl) (fun _ _ _ h => h) XhS.out (Or.inl ⟨by kernel_rfl, ?_⟩) ?_
            rotate_left
            · intro Wq hWq
              obtain ⟨x0, x1⟩ := hWq
              go_simp
              try simp only [hdl]
              try with_reducible rfl
            try simp only [Act.put, List.getElem_toArray, List.getElem_cons_zero, List.getElem_cons_succ, List.setIfInBounds_toArray, List.set_cons_zero, List.set_cons_succ]
            refine hoist_takeR (i := 4) (v := ?_) (fun _ => trivial) (by kernel_rfl) rfl (by kernel_rfl) (by kernel_rfl) (by kernel_rfl) (by kernel_rfl) (fun _ _ _ h => h) XhS.out (Or.inl ⟨by kernel_rfl, ?_⟩) ?_
            rotate_left
            · intro Wq hWq
              obtain ⟨x0, x1⟩ := hWq
              go_simp
              try simp only [hdl]
              try with_reducible rfl
            try simp only [Act.put, List.getElem_toArray, List.getElem_cons_zero, List.getElem_cons_succ, List.setIfInBounds_toArray, List.set_cons_zero, List.set_cons_succ]
            refine hoist_takeR (i := 5) (v := undef) (fun _ => trivial) (by kernel_rfl) rfl (by kernel_rfl) (by kernel_rfl) (by kernel_rfl) (by kernel_rfl) (fun _ _ _ h => h) XhS.out (Or.inr ⟨by kernel_rfl, rfl⟩) ?_
            try simp only [Act.put, List.getElem_toArray, List.getElem_cons_zero, List.getElem_cons_succ, List.setIfInBounds_toArray, List.set_cons_zero, List.set_cons_succ]
            refine hoist_takeR (i := 6) (v := undef) (fun _ => trivial) (by kernel_rfl) rfl (by kernel_rfl) (by kernel_rfl) (by kernel_rfl) (by kernel_rfl) (fun _ _ _ h => h) XhS.out (Or.inr ⟨by kernel_rfl, rfl⟩) ?_
            try simp only [Act.put, List.getElem_toArray, List.getElem_cons_zero, List.getElem_cons_succ, List.setIfInBounds_toArray, List.set_cons_zero, List.set_cons_succ]
            refine hoist_takeR (i := 7) (v := undef) (fun _ => trivial) (by kernel_rfl) rfl (by kernel_rfl) (by kernel_rfl) (by kernel_rfl) (by kernel_rfl) (fun _ _ _ h => h) XhS.out (Or.inr ⟨by kernel_rfl, rfl⟩) ?_
            try simp only [Act.put, List.getElem_toArray, List.getElem_cons_zero, List.getElem_cons_succ, List.setIfInBounds_toArray, List.set_cons_zero, List.set_cons_succ]
            refine hoist_takeR (i := 8) (v := undef) (fun _ => trivial) (by kernel_rfl) rfl (by kernel_rfl) (by kernel_rfl) (by kernel_rfl) (by kernel_rfl) (fun _ _ _ h => h) XhS.out (Or.inr ⟨by kernel_rfl, rfl⟩) ?_
            try simp only [Act.put, List.getElem_toArray, List.getElem_cons_zero, List.getElem_cons_succ, List.setIfInBounds_toArray, List.set_cons_zero, List.set_cons_succ]
            refine hoist_takeR (i := 9) (v := undef) (fun _ => trivial) (by kernel_rfl) rfl (by kernel_rfl) (by kernel_rfl) (by kernel_rfl) (by kernel_rfl) (fun _ _ _ h => h) XhS.out (Or.inr ⟨by kernel_rfl, rfl⟩) ?_
            try simp only [Act.put, List.getElem_toArray, List.getElem_cons_zero, List.getElem_cons_succ, List.setIfInBounds_toArray, List.set_cons_zero, List.set_cons_succ]
            refine hoist_takeR (i := 10) (v := undef) (fun _ => trivial) (by kernel_rfl) rfl (by kernel_rfl) (by kernel_rfl) (by kernel_rfl) (by kernel_rfl) (fun _ _ _ h => h) XhS.out (Or.inr ⟨by kernel_rfl, rfl⟩) ?_
            try simp only [Act.put, List.getElem_toArray, List.getElem_cons_zero, List.getElem_cons_succ, List.setIfInBounds_toArray, List.set_cons_zero, List.set_cons_succ]
            refine hoist_takeR (i := 11) (v := undef) (fun _ => trivial) (by kernel_rfl) rfl (by kernel_rfl) (by kernel_rfl) (by kernel_rfl) (by kernel_rfl) (fun _ _ _ h => h) XhS.out (Or.inr ⟨by kernel_rfl, rfl⟩) ?_
            try simp only [Act.put, List.getElem_toArray, List.getElem_cons_zero, List.getElem_cons_succ, List.setIfInBounds_toArray, List.set_cons_zero, List.set_cons_succ]
            refine hoist_takeR (i := 12) (v := undef) (fun _ => trivial) (by kernel_rfl) rfl (by kernel_rfl) (by kernel_rfl) (by kernel_rfl) (by kernel_rfl) (fun _ _ _ h => h) XhS.out (Or.inr ⟨by kernel_rfl, rfl⟩) ?_
            try simp only [Act.put, List.getElem_toArray, List.getElem_cons_zero, List.getElem_cons_succ, List.setIfInBounds_toArray, List.set_cons_zero, List.set_cons_succ]
            refine hoist_takeR (i := 13) (v := ?_) (fun _ => trivial) (by kernel_rfl) rfl (by kernel_rfl) (by kernel_rfl) (by kernel_rfl) (by kernel_rfl) (fun _ _ _ h => h) XhS.out (Or.inl ⟨by kernel_rfl, ?_⟩) ?_
            rotate_left
            · intro Wq hWq
              obtain ⟨x0, x1⟩ := hWq
              go_simp
              try simp only [hdl]
              try with_reducible rfl
            try simp only [Act.put, List.getElem_toArray, List.getElem_cons_zero, List.getElem_cons_succ, List.setIfInBounds_toArray, List.set_cons_zero, List.set_cons_succ]
            refine hoist_doneR (by kernel_rfl) ?_
            refine onlyN_mk ?_
            clear XhS
            gi_wp2
            exact XhfinE.out
        case done =>
          rintro D s' W hD hfD hWD hsd hR hinvW hVW
          rw [XhNs.out] at hR
          obtain ⟨F', vL', svs', r1, r2, r3, r4⟩ := hR.ref
          have hQt : ∀ b, (b = b18 ∨ Value.ownBlock (.slice aW pl.length cW) = some b ∨ b ∈ Ds ∨ U b ∨ b < w.heap.size ∨ b = b7 ∨ b = b7 + 1 ∨ b = bT ∨ b = bT + 1) → Q b := fun b hb => by rw [XhQd.out]; exact hb
          have hQO : ∀ b, Q b → Outside s' F' b := fun b hq => ⟨hR.fr.2 b hq, r3 b hq⟩
          have hboW : Both B n P KM s' F' Bf vL' svs' W := ⟨hinvW, r1, fun b hF => (r2 b hF).1, fun b hF => (r2 b hF).2.1⟩
          have kwW : Keep (fun b => b < w.heap.size) w W := Xhst7.out.keep.trans (hR.keep.mono fun b _ h => hQt b (by simp [h]))
          have hstW : MwSt w b7 (b7 + 1) bT (bT + 1) B n P KM Bf (.slice a2 more.length c2) s' F' vL' svs' W := by
            obtain ⟨v, hv⟩ := Xhst7.out.h10
            exact ⟨hboW, Xhst7.out.h7.keep hR.keep (hQt _ (by simp)), ⟨v, hv.keep hR.keep (hQt _ (by simp))⟩, Xhst7.out.hT.keep hR.keep (hQt _ (by simp)), Xhst7.out.hR.keep hR.keep (hQt _ (by simp)), fun b hb => hQO b (hQt b (by rcases hb with h | h | h | h | h <;> simp [h])), kwW⟩
          have g18W := Xg187.out.keep hR.keep (hQt _ (by simp))
          have o18 : Outside s' F' b18 := hQO b18 (hQt _ (by simp))
          have o20 : Outside s' F' b20 := ⟨hR.fr.1, r4⟩
          have oT : Outside s' F' bT := hQO _ (hQt _ (by simp))
          have oR : Outside s' F' (bT + 1) := hQO _ (hQt _ (by simp))
          have hwr7 : wr.heap.size ≤ W7.heap.size := by have e20 := Xhb20.out; omega
          have hww : w.heap.size ≤ wr.heap.size := Xhst.out.keep.size
          have hDn' : (D :: Ds).Nodup := List.nodup_cons.2 ⟨fun h => by have := XhDlt.out D h; omega, XhDn.out⟩
          have hDo : Outside s' F' D := ⟨hfD, fun hF => by have := (r2 D hF).2.2; omega⟩
          have hDs' : ∀ E, E ∈ D :: Ds → w.heap.size ≤ E ∧ Outside s' F' E := fun E hE => by
            rcases List.mem_cons.1 hE with rfl | hE
            · exact ⟨by omega, hDo⟩
            · exact ⟨(XhDs.out E hE).1, hQO E (hQt E (.inr (.inr (.inl hE))))⟩
          have hlen' : s'.ts.length ≤ s.ts.length + more.length := by have := hR.len; omega
          obtain ⟨Wd, hWd⟩ : ∃ Wd, W.drew = Wd := ⟨_, rfl⟩
          have kdW : Keep (fun _ => True) W Wd := by rw [← hWd]; exact Keep.drew _ _
          have hDmd : ∀ E, E ∈ D :: Ds → Wd.heap[E]? = some (.deferred (some [])) := fun E hE => by
            rcases List.mem_cons.1 hE with rfl | hE
            · exact kdW.heap hWD trivial
            · exact kdW.heap (hR.keep.heap (XhDm7.out E hE) (hQt E (.inr (.inr (.inl hE))))) trivial
          have hstd' := hstW.stay kdW (fun _ _ _ => trivial)
          have g18d' := g18W.keep kdW trivial
          have g20d' := hR.box.keep kdW trivial
          have kwd' : Keep (fun b => b < w.heap.size) w Wd := hstd'.keep
          have hiCe : IntsIn m Wd (.slice ac cols.length cc) cols := ints_stay Xhc.out kwd' hm
          have hiKe : IntsIn m Wd (.slice ak key.length ck) key := ints_stay Xhk.out kwd' hm
          have hme : m ≤ Wd.heap.size := Nat.le_trans hm kwd'.size
          have hmke := relMatch_any Wd B m _ _ cols key 0 to hiCe hiKe hme
          have hSd : Wd.cell? ⟨b20, 0, none⟩ = some (.int .i64 (pl.length : Int)) ∧ Wd.cell? ⟨b18, 0, none⟩ = some (.slice aW pl.length cW) ∧ Wd.cell? ⟨bT, 0, none⟩ = some (.pointer (some ⟨B, 0, none⟩)) ∧ Wd.cell? ⟨bT + 1, 0, none⟩ = some (.pointer (some ⟨Bf, 0, none⟩)) := ⟨g20d'.cell, g18d'.cell, hstd'.hT.cell, hstd'.hR.cell⟩
          have hltd : b20 < Wd.heap.size ∧ b18 < Wd.heap.size ∧ bT < Wd.heap.size ∧ bT + 1 < Wd.heap.size := ⟨g20d'.lt, g18d'.lt, hstd'.hT.lt, hstd'.hR.lt⟩
          have hDle : ∀ E, E ∈ D :: Ds → E < Wd.heap.size := fun E hE => heap_lt (hDmd E hE)
          clear r1 r2 r3 r4 hQt hQO hboW kwW hstW g18W hwr7 hDo hWD hfD hR hinvW hVW kdW g18d' g20d' hsd
          clear Xhst7 Xg187 XhoW7 XhV7 Xhfr7 XhQd XhQo XhUQ Xh0 Xhinv7 Xhfree7 Xg20 XhV6 XhVU XhU6 XhA XhAs XhNs
          have XhSd := Lib.hid hSd
          have Xhmke := Lib.hid hmke
          have Xo18 := Lib.hid o18
          have Xo20 := Lib.hid o20
          have XoT := Lib.hid oT
          have XoR := Lib.hid oR
          have XhDn' := Lib.hid hDn'
          have XhDs' := Lib.hid hDs'
          have XhDmd := Lib.hid hDmd
          have Xhstd' := Lib.hid hstd'
          have Xkwd' := Lib.hid kwd'
          have XhiCe := Lib.hid hiCe
          have XhiKe := Lib.hid hiKe
          have Xhltd := Lib.hid hltd
          have XhDle := Lib.hid hDle
          have XhWd := Lib.hid hWd
          clear hSd hmke o18 o20 oT oR hDn' hDs' hDmd hstd' kwd' hiCe hiKe hltd hDle hWd
          gi_wp2
          refine wpIn_onlyN ?_
          refine wpIn_wide.2 ?_
          refine region_hoist rfl (fun W => W.cell? ⟨b20, 0, none⟩ = some (.int .i64 (pl.length : Int)) ∧ W.cell? ⟨b18, 0, none⟩ = some (.slice aW pl.length cW) ∧ W.cell? ⟨bT, 0, none⟩ = some (.pointer (some ⟨B, 0, none⟩)) ∧ W.cell? ⟨bT + 1, 0, none⟩ = some (.pointer (some ⟨Bf, 0, none⟩))) [] ?_
          rw [XhWd.out]
          refine hoist_take (i := 0) (v := ?_) rfl (by kernel_rfl) (by kernel_rfl) (by kernel_rfl) (by kernel_rfl) (fun _ _ _ h => h) XhSd.out (Or.inl ⟨by kernel_rfl, ?_⟩) ?_
          rotate_left
          · intro Wq hWq
            obtain ⟨x0, x1, x2, x3⟩ := hWq
            go_simp
            try simp only [bne_self_eq_false]
            try with_reducible rfl
          try simp only [Act.put, List.getElem_toArray, List.getElem_cons_zero, List.getElem_cons_succ, List.setIfInBounds_toArray, List.set_cons_zero, List.set_cons_succ]
          refine hoist_take (i := 1) (v := ?_) rfl (by kernel_rfl) (by kernel_rfl) (by kernel_rfl) (by kernel_rfl) (fun _ _ _ h => h) XhSd.out (Or.inl ⟨by kernel_rfl, ?_⟩) ?_
          rotate_left
          · intro Wq hWq
            obtain ⟨x0, x1, x2, x3⟩ := hWq
            go_simp
            try simp only [bne_self_eq_false]
            try with_reducible rfl
          try simp only [Act.put, List.getElem_toArray, List.getElem_cons_zero, List.getElem_cons_succ, List.setIfInBounds_toArray, List.set_cons_zero, List.set_cons_succ]
          refine hoist_take (i := 2) (v := ?_) rfl (by kernel_rfl) (by kernel_rfl) (by kernel_rfl) (by kernel_rfl) (fun _ _ _ h => h) XhSd.out (Or.inl ⟨by kernel_rfl, ?_⟩) ?_
          rotate_left
          · intro Wq hWq
            obtain ⟨x0, x1, x2, x3⟩ := hWq
            go_simp
            try simp only [bne_self_eq_false]
            try with_reducible rfl
          try simp only [Act.put, List.getElem_toArray, List.getElem_cons_zero, List.getElem_cons_succ, List.setIfInBounds_toArray, List.set_cons_zero, List.set_cons_succ]
          refine hoist_take (i := 3) (v := ?_) rfl (by kernel_rfl) (by kernel_rfl) (by kernel_rfl) (by kernel_rfl) (fun _ _ _ h => h) XhSd.out (Or.inl ⟨by kernel_rfl, ?_⟩) ?_
          rotate_left
          · intro Wq hWq
            obtain ⟨x0, x1, x2, x3⟩ := hWq
            go_simp
            try simp only [bne_self_eq_false]
            try with_reducible rfl
          try simp only [Act.put, List.getElem_toArray, List.getElem_cons_zero, List.getElem_cons_succ, List.setIfInBounds_toArray, List.set_cons_zero, List.set_cons_succ]
          refine hoist_take (i := 4) (v := ?_) rfl (by kernel_rfl) (by kernel_rfl) (by kernel_rfl) (by kernel_rfl) (fun _ _ _ h => h) XhSd.out (Or.inl ⟨by kernel_rfl, ?_⟩) ?_
          rotate_left
          · intro Wq hWq
            obtain ⟨x0, x1, x2, x3⟩ := hWq
            go_simp
            try simp only [bne_self_eq_false]
            try with_reducible rfl
          try simp only [Act.put, List.getElem_toArray, List.getElem_cons_zero, List.getElem_cons_succ, List.setIfInBounds_toArray, List.set_cons_zero, List.set_cons_succ]
          refine hoist_take (i := 5) (v := ?_) rfl (by kernel_rfl) (by kernel_rfl) (by kernel_rfl) (by kernel_rfl) (fun _ _ _ h => h) XhSd.out (Or.inl ⟨by kernel_rfl, ?_⟩) ?_
          rotate_left
          · intro Wq hWq
            obtain ⟨x0, x1, x2, x3⟩ := hWq
            go_simp
            try simp only [bne_self_eq_false]
            try with_reducible rfl
          try simp only [Act.put, List.getElem_toArray, List.getElem_cons_zero, List.getElem_cons_succ, List.setIfInBounds_toArray, List.set_cons_zero, List.set_cons_succ]
          refine hoist_take (i := 6) (v := ?_) rfl (by kernel_rfl) (by kernel_rfl) (by kernel_rfl) (by kernel_rfl) (fun _ _ _ h => h) XhSd.out (Or.inl ⟨by kernel_rfl, ?_⟩) ?_
          rotate_left
          · intro Wq hWq
            obtain ⟨x0, x1, x2, x3⟩ := hWq
            go_simp
            try simp only [bne_self_eq_false]
            try with_reducible rfl
          try simp only [Act.put, List.getElem_toArray, List.getElem_cons_zero, List.getElem_cons_succ, List.setIfInBounds_toArray, List.set_cons_zero, List.set_cons_succ]
          refine hoist_take (i := 7) (v := ?_) rfl (by kernel_rfl) (by kernel_rfl) (by kernel_rfl) (by kernel_rfl) (fun _ _ _ h => h) XhSd.out (Or.inl ⟨by kernel_rfl, ?_⟩) ?_
          rotate_left
          · intro Wq hWq
            obtain ⟨x0, x1, x2, x3⟩ := hWq
            go_simp
            try simp only [bne_self_eq_false]
            try with_reducible rfl
          try simp only [Act.put, List.getElem_toArray, List.getElem_cons_zero, List.getElem_cons_succ, List.setIfInBounds_toArray, List.set_cons_zero, List.set_cons_succ]
          refine hoist_take (i := 8) (v := ?_) rfl (by kernel_rfl) (by kernel_rfl) (by kernel_rfl) (by kernel_rfl) (fun _ _ _ h => h) XhSd.out (Or.inl ⟨by kernel_rfl, ?_⟩) ?_
          rotate_left
          · intro Wq hWq
            obtain ⟨x0, x1, x2, x3⟩ := hWq
            go_simp
            try simp only [bne_self_eq_false]
            try with_reducible rfl
          try simp only [Act.put, List.getElem_toArray, List.getElem_cons_zero, List.getElem_cons_succ, List.setIfInBounds_toArray, List.set_cons_zero, List.set_cons_succ]
          refine hoist_take (i := 10) (v := ?_) rfl (by kernel_rfl) (by kernel_rfl) (by kernel_rfl) (by kernel_rfl) (fun _ _ _ h => h) XhSd.out (Or.inl ⟨by kernel_rfl, ?_⟩) ?_
          rotate_left
          · intro Wq hWq
            obtain ⟨x0, x1, x2, x3⟩ := hWq
            go_simp
            try simp only [bne_self_eq_false]
            try with_reducible rfl
          try simp only [Act.put, List.getElem_toArray, List.getElem_cons_zero, List.getElem_cons_succ, List.setIfInBounds_toArray, List.set_cons_zero, List.set_cons_succ]
          refine hoist_take (i := 11) (v := ?_) rfl (by kernel_rfl) (by kernel_rfl) (by kernel_rfl) (by kernel_rfl) (fun _ _ _ h => h) XhSd.out (Or.inl ⟨by kernel_rfl, ?_⟩) ?_
          rotate_left
          · intro Wq hWq
            obtain ⟨x0, x1, x2, x3⟩ := hWq
            go_simp
            try simp only [bne_self_eq_false]
            try with_reducible rfl
          try simp only [Act.put, List.getElem_toArray, List.getElem_cons_zero, List.getElem_cons_succ, List.setIfInBounds_toArray, List.set_cons_zero, List.set_cons_succ]
          refine hoist_take (i := 12) (v := ?_) rfl (by kernel_rfl) (by kernel_rfl) (by kernel_rfl) (by kernel_rfl) (fun _ _ _ h => h) XhSd.out (Or.inl ⟨by kernel_rfl, ?_⟩) ?_
          rotate_left
          · intro Wq hWq
            obtain ⟨x0, x1, x2, x3⟩ := hWq
            go_simp
            try simp only [bne_self_eq_false]
            try with_reducible rfl
          try simp only [Act.put, List.getElem_toArray, List.getElem_cons_zero, List.getElem_cons_succ, List.setIfInBounds_toArray, List.set_cons_zero, List.set_cons_succ]
          refine hoist_take (i := 13) (v := ?_) rfl (by kernel_rfl) (by kernel_rfl) (by kernel_rfl) (by kernel_rfl) (fun _ _ _ h => h) XhSd.out (Or.inl ⟨by kernel_rfl, ?_⟩) ?_
          rotate_left
          · intro Wq hWq
            obtain ⟨x0, x1, x2, x3⟩ := hWq
            go_simp
            try simp only [bne_self_eq_false]
            try with_reducible rfl
          try simp only [Act.put, List.getElem_toArray, List.getElem_cons_zero, List.getElem_cons_succ, List.setIfInBounds_toArray, List.set_cons_zero, List.set_cons_succ]
          refine hoist_take (i := 14) (v := ?_) rfl (by kernel_rfl) (by kernel_rfl) (by kernel_rfl) (by kernel_rfl) (fun _ _ _ h => h) XhSd.out (Or.inl ⟨by kernel_rfl, ?_⟩) ?_
          rotate_left
          · intro Wq hWq
            obtain ⟨x0, x1, x2, x3⟩ := hWq
            go_simp
            try simp only [bne_self_eq_false]
            try with_reducible rfl
          try simp only [Act.put, List.getElem_toArray, List.getElem_cons_zero, List.getElem_cons_succ, List.setIfInBounds_toArray, List.set_cons_zero, List.set_cons_succ]
          refine hoist_one (i := 9) rfl (by kernel_rfl) (fun K hK => ?_)
          have XhK0 := Lib.hid hK
          clear hK
          go_wp2_with fail
          refine Xhmke.out.mono ?_
          rintro e W3 ⟨bR', bL', bK', bT', bF', vl', vk', rfl, k3, hMV⟩
          have hS3 : W3.cell? ⟨b20, 0, none⟩ = some (.int .i64 (pl.length : Int)) ∧ W3.cell? ⟨b18, 0, none⟩ = some (.slice aW pl.length cW) ∧ W3.cell? ⟨bT, 0, none⟩ = some (.pointer (some ⟨B, 0, none⟩)) ∧ W3.cell? ⟨bT + 1, 0, none⟩ = some (.pointer (some ⟨Bf, 0, none⟩)) := ⟨k3.cell XhSd.out.1 trivial, k3.cell XhSd.out.2.1 trivial, k3.cell XhSd.out.2.2.1 trivial, k3.cell XhSd.out.2.2.2 trivial⟩
          have hst3' := Xhstd'.out.stay k3 (fun _ _ _ => trivial)
          have hiC3' := ints_stay XhiCe.out (m := m) (k3.mono fun _ _ _ => trivial) (Nat.le_refl _)
          have hiK3' := ints_stay XhiKe.out (m := m) (k3.mono fun _ _ _ => trivial) (Nat.le_refl _)
          have hz3' := k3.size
          have hmr := refMatch_any (hst3'.both.ref.lists (by have := hst3'.both.rel.few; omega)) hst3'.both.rel.own.len m _ _ cols key 0 to hiC3' hiK3' (by omega)
          have Xk3 := Lib.hid k3
          have XhMV := Lib.hid hMV
          have XhS3 := Lib.hid hS3
          have Xhst3' := Lib.hid hst3'
          have Xhmr := Lib.hid hmr
          have XhiC3' := Lib.hid hiC3'
          have XhiK3' := Lib.hid hiK3'
          clear k3 hMV hS3 hst3' hmr hiC3' hiK3'
          go_wp2_with fail
          refine XhK0.out _ _ (fun _ => XhS3.out) ?_
          refine hoist_one (i := 15) rfl (by kernel_rfl) (fun K hK => ?_)
          have XhK1 := Lib.hid hK
          clear hK
          go_wp2_with fail
          refine Xhmr.out.mono ?_
          rintro e W4 ⟨v4, rfl, k4, ho4⟩
          obtain ⟨pl2, hpl2⟩ : ∃ pl2, matchD n s'.ts cols key 0 to = pl2 := ⟨_, rfl⟩
          rw [hpl2] at ho4
          have hS4 : W4.cell? ⟨b20, 0, none⟩ = some (.int .i64 (pl.length : Int)) ∧ W4.cell? ⟨b18, 0, none⟩ = some (.slice aW pl.length cW) ∧ W4.cell? ⟨bT, 0, none⟩ = some (.pointer (some ⟨B, 0, none⟩)) ∧ W4.cell? ⟨bT + 1, 0, none⟩ = some (.pointer (some ⟨Bf, 0, none⟩)) := by
            obtain ⟨q1, q2, q3, q4⟩ := Xhltd.out
            exact ⟨k4.cell XhS3.out.1 (by simp only; omega), k4.cell XhS3.out.2.1 (by simp only; omega), k4.cell XhS3.out.2.2.1 (by simp only; omega), k4.cell XhS3.out.2.2.2 (by simp only; omega)⟩
          have hst4' := Xhst3'.out.stay k4 (fun b hb _ => hb)
          have hz4' := k4.size
          have hnew : ∀ b, Wd.heap.size ≤ b → s'.tag b = none := fun b hb => by
            cases hT : s'.tag b with
            | none => rfl
            | some T => have := Xhstd'.out.both.rel.own.lt b T hT; omega
          have hMV4 := XhMV.out.keep k4 (fun b _ h => h)
          have eg2 := enters Try.func32 (by kernel_rfl) rfl
          have hpl2n : pl2.length ≤ 67108864 := by rw [← hpl2]; exact Nat.le_trans (matchD_len _ _ _ _ _ _) hst4'.both.rel.few
          have hgo := goes0_any hst4'.both 32 _ eg2 _ _ _ _
            (relMatch_iter B n P KM Wd.heap.size W3.heap.size bR' bL' bK' bT' bF' vl' vk' 0 to cols key Xokk.out hlc hlk) hMV4 (fun X Y hv hk => hv.keep hk (fun b h1 h2 => ⟨h1, h2⟩))
            (fun b hb => ⟨by omega, hnew b hb.1⟩) pl2 hpl2n v4 (own_base2 ho4 (Nat.zero_le _)) (fun b hb => hnew b (by have := (World.ownsRow.lt ho4 b hb).1; omega))
            (fun s1 hs1 => by show (matchD n s1.ts _ _ _ _).length = _; rw [hs1, hpl2])
            (fun s1 k s2 m' X args hs1 h => by
              obtain ⟨i, t, h1, h2, h3⟩ := h
              rw [hs1] at h1 h2
              exact ⟨i, t, by rw [← hpl2]; exact h1, h2, h3⟩)
            (fun s1 k s2 m' X args h => by
              obtain ⟨i, t, h1, h2, v, rfl, h3⟩ := h
              rfl)
          have hDm4 : ∀ E, E ∈ D :: Ds → W4.heap[E]? = some (.deferred (some [])) := fun E hE => k4.heap (Xk3.out.heap (XhDmd.out E hE) trivial) (by have := XhDle.out E hE; omega)
          obtain ⟨a4, c4, rfl⟩ := own_form ho4
          clear ho4 hpl2 hMV4 hnew
          have Xk4 := Lib.hid k4
          have XhS4 := Lib.hid hS4
          have Xhst4' := Lib.hid hst4'
          have Xhgo := Lib.hid hgo
          have XhDm4 := Lib.hid hDm4
          have Xeg2 := Lib.hid eg2
          clear k4 hS4 hst4' hgo hDm4 eg2
          go_wp2_with fail
          refine XhK1.out _ _ (fun _ => XhS4.out) ?_
          refine hoist_one (i := 16) rfl (by kernel_rfl) (fun K hK => ?_)
          have XhK2 := Lib.hid hK
          clear hK
          go_wp2_with fail
          refine Xhgo.out.mono ?_
          rintro e W5' ⟨rfl, s2, hinv5, hsm5⟩
          have ksm : Keep (fun b => s'.tag b = none ∧ b < W4.heap.size) W4 W5' := hsm5.keep
          have hS5 : W5'.cell? ⟨b20, 0, none⟩ = some (.int .i64 (pl.length : Int)) ∧ W5'.cell? ⟨b18, 0, none⟩ = some (.slice aW pl.length cW) ∧ W5'.cell? ⟨bT, 0, none⟩ = some (.pointer (some ⟨B, 0, none⟩)) ∧ W5'.cell? ⟨bT + 1, 0, none⟩ = some (.pointer (some ⟨Bf, 0, none⟩)) := by
            obtain ⟨q1, q2, q3, q4⟩ := Xhltd.out
            exact ⟨ksm.cell XhS4.out.1 ⟨Xo20.out.1, by simp only; omega⟩, ksm.cell XhS4.out.2.1 ⟨Xo18.out.1, by simp only; omega⟩, ksm.cell XhS4.out.2.2.1 ⟨XoT.out.1, by simp only; omega⟩, ksm.cell XhS4.out.2.2.2 ⟨XoR.out.1, by simp only; omega⟩⟩
          have hst5' := Xhst4'.out.same hinv5 hsm5
          have hDs5 : ∀ E, E ∈ D :: Ds → w.heap.size ≤ E ∧ Outside s2 F' E := fun E hE => ⟨(XhDs'.out E hE).1, hsm5.free (by have := XhDle.out E hE; omega) (XhDs'.out E hE).2.1, (XhDs'.out E hE).2.2⟩
          have hDm5' : MarksAt (D :: Ds) (fun _ => False) W5' := fun E hE => ⟨fun h => h, ksm.heap (XhDm4.out E hE) ⟨(XhDs'.out E hE).2.1, by have := XhDle.out E hE; omega⟩⟩
          have hlen5 : s2.ts.length ≤ tuples.length + 2 * more.length := by rw [hsm5.same]; omega
          have XhS5 := Lib.hid hS5
          have Xhst5' := Lib.hid hst5'
          have XhDs5 := Lib.hid hDs5
          have XhDm5' := Lib.hid hDm5'
          have Xhinv5 := Lib.hid hinv5
          have Xhsm5 := Lib.hid hsm5
          have Xksm := Lib.hid ksm
          clear hS5 hst5' hDs5 hDm5' hinv5 hsm5 ksm
          go_wp2_with fail
          refine XhK2.out _ _ (fun _ => XhS5.out) ?_
          refine hoist_take (i := 17) (v := ?_) rfl (by kernel_rfl) (by kernel_rfl) (by kernel_rfl) (by kernel_rfl) (fun _ _ _ h => h) XhS5.out (Or.inl ⟨by kernel_rfl, ?_⟩) ?_
          rotate_left
          · intro Wq hWq
            obtain ⟨x0, x1, x2, x3⟩ := hWq
            go_simp
            try simp only [bne_self_eq_false]
            try with_reducible rfl
          try simp only [Act.put, List.getElem_toArray, List.getElem_cons_zero, List.getElem_cons_succ, List.setIfInBounds_toArray, List.set_cons_zero, List.set_cons_succ]
          refine hoist_take (i := 18) (v := ?_) rfl (by kernel_rfl) (by kernel_rfl) (by kernel_rfl) (by kernel_rfl) (fun _ _ _ h => h) XhS5.out (Or.inl ⟨by kernel_rfl, ?_⟩) ?_
          rotate_left
          · intro Wq hWq
            obtain ⟨x0, x1, x2, x3⟩ := hWq
            go_simp
            try simp only [bne_self_eq_false]
            try with_reducible rfl
          try simp only [Act.put, List.getElem_toArray, List.getElem_cons_zero, List.getElem_cons_succ, List.setIfInBounds_toArray, List.set_cons_zero, List.set_cons_succ]
          refine hoist_done (by kernel_rfl) ?_
          refine onlyN_mk ?_
          clear XhK0 XhK1 XhK2 XhSd XhS3 XhS4 XhS5 Xhmke Xhmr Xhgo
          gi_wp2
          refine ⟨⟨_, _, _, _, _, _, _, _, _, _, _, _, _, _, _, _, _, _, _, _, _, _, _, _, _, _, _, _, _, _, _, _, _, _, _, _, _, _, _, _, _, _, _, _, _, _, _, _, _, _, _, _, _, _, _, _, _, _, _, _, _, _, _, _, _, _, _, _, _, _, _, _, _, _, _, _, _, _, _, _, _, _, _, _, _, _, _, _, _, _, _, _, _, _, _, _, _, _, _, _, _, _, _, _, _, _, _, _, _, _, _, _, _, _, _, _, _, _, _, _, _, _, _, _, _, _, _, _, _, _, _, _, _, _, _, _, ⟨2, D :: Ds, s2, F', vL', svs', by omega, rfl, rfl, rfl, rfl, rfl, rfl, rfl, rfl, Xhst5'.out, hlen5, fun h => by omega, rfl, XhDn'.out, XhDs5.out, XhDm5'.out⟩, rfl⟩, ?_⟩
          simp [intOf]

end Go.Proofs
