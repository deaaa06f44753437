/- Layer 4, the program's relation: by (the look of some columns, made when it is first asked for). -/
import Derived.Test.YtbaemcmagkmjiaaProg
import Derived.Test.YtbaemcmagkmjiaaRelP
import Derived.Test.YtbaemcmagkmjiaaRelO
namespace Go.Proofs
open Go.RowKit Go.Ink
set_option linter.unusedVariables false
set_option linter.unusedSimpArgs false
attribute [local go_sem] Oper.semAt_some

theorem zero_look : ∀ w : World, (zeroValue 86).run Try.prog w = .ok (.pointer none) w := fun w => by kernel_rfl

/-- a look made apart comes to the others -/
theorem by_merge {tag tagN : Tags} {w1 w2 : World} {B n : Nat} {ts : List (List Int)} {vD : Value} {P K : Nat} {lm : List (List Bool × Nat)} (h : RelOwn tag w1 B n ts vD P K lm) {c : List Bool} {L : Nat} {l : List Int} {vl : Value} {M : Nat} {m : List (List Int × Value)}
    (hl : LookAt tagN w1 n ts c L l vl M m) (hN : ∀ b T, tagN b = some T → tag b = none ∧ b < w1.heap.size ∧ lookT (some T) = some c) (hc : c ∉ lm.map (·.1)) (hm : LookMap w2 K (setK lm c L)) (hk : Keep (fun b => b ≠ K) w1 w2) (hold : ∀ b T, tag b = some T → lookT (some T) ≠ some c) :
    RelOwn (fun b => match tagN b with | some T => some T | none => tag b) w2 B n ts vD P K (lm ++ [(c, L)]) ∧ TagLe tag (fun b => match tagN b with | some T => some T | none => tag b) := by
  have hz := hk.size
  have hN0 : ∀ b T, tag b = some T → tagN b = none := fun b T hb => by
    cases hT : tagN b with
    | none => rfl
    | some T' => have := (hN b T' hT).1; rw [hb] at this; cases this
  have htag : ∀ b T, tag b = some T → (fun b => match tagN b with | some T => some T | none => tag b) b = some T := fun b T hb => by simp only [hN0 b T hb]; exact hb
  have hKn : ∀ b T, tag b = some T → T ≠ .kmap → b ≠ K := fun b T hb hT e => hT (by rw [e, h.tagK] at hb; cases hb; rfl)
  refine ⟨⟨htag B _ h.tagB, hk.heap h.box (hKn B _ h.tagB (fun e => (by cases e))), h.n16, h.nodup, h.right, h.ok, own_kept h.own hk (fun b hb => hKn b _ (h.tagD b hb) (fun e => (by cases e))), fun b hb => htag b _ (h.tagD b hb), htag P _ h.tagP, h.pmap.keep hk (hKn P _ h.tagP (fun e => (by cases e))), htag K _ h.tagK, ?_, ?_, ?_, ?_⟩, fun b T hb => .inl (htag b T hb)⟩
  · have : setK lm c L = lm ++ [(c, L)] := by unfold setK; rw [if_neg hc]
    rw [← this]; exact hm
  · intro c' L' hcl
    rcases List.mem_append.1 hcl with hcl | hcl
    · obtain ⟨l', vl', M', m', hl'⟩ := h.looks c' L' hcl
      have hne : c' ≠ c := fun e => hc (e ▸ List.mem_map.2 ⟨_, hcl, rfl⟩)
      refine ⟨l', vl', M', m', hl'.keep hk (fun b hb e => ?_) (fun b hb => ?_) (fun b hb => ?_)⟩
      · subst e; rw [h.tagK] at hb; cases hb
      · cases hT : tag b with
        | none => rw [hT] at hb; cases hb
        | some T => rw [← hT]; exact (htag b T hT).trans hT.symm
      · cases hT : tagN b with
        | none => simp only [hT]
        | some T =>
          simp only [hT] at hb
          exact absurd ((Option.some.inj (hb.symm.trans (hN b T hT).2.2))) hne
    · simp only [List.mem_singleton, Prod.mk.injEq] at hcl
      obtain ⟨rfl, rfl⟩ := hcl
      refine ⟨l, vl, M, m, hl.keep hk (fun b hb e => ?_) (fun b hb => ?_) (fun b hb => ?_)⟩
      · subst e
        cases hT : tagN b with
        | none => rw [hT] at hb; cases hb
        | some T => have := (hN b T hT).1; rw [h.tagK] at this; cases this
      · cases hT : tagN b with
        | none => rw [hT] at hb; cases hb
        | some T => simp only [hT]
      · cases hT : tagN b with
        | none =>
          simp only [hT] at hb ⊢
          cases hT2 : tag b with
          | none => rfl
          | some T2 => rw [hT2] at hb; exact absurd hb (hold b T2 hT2)
        | some T => simp only [hT]
  · intro b c' hb
    cases hT : tagN b with
    | none =>
      simp only [hT] at hb
      obtain ⟨L', h1⟩ := h.ents b c' hb
      exact ⟨L', List.mem_append_left _ h1⟩
    | some T =>
      simp only [hT] at hb
      have e : c' = c := Option.some.inj (hb.symm.trans (hN b T hT).2.2)
      exact ⟨L, by rw [e]; simp⟩
  · intro b T hb
    cases hT : tagN b with
    | none => simp only [hT] at hb; have := h.lt b T hb; omega
    | some T' => have := (hN b T' hT).2.1; omega

set_option maxRecDepth 100000 in
set_option maxHeartbeats 4000000 in
theorem by_any {tag : Tags} {w : World} {B n : Nat} {ts : List (List Int)} {vD : Value} {P K : Nat} {lm : List (List Bool × Nat)} (h : RelOwn tag w B n ts vD P K lm) (hl : ts.length ≤ 134217728) (m : Nat) (v : Value) (l : List Int) (hs : IntsIn m w v l) (hm : m ≤ w.heap.size) (hrow : rowD n l = true) :
    Calls Try.prog 44 #[.pointer (some ⟨B, 0, none⟩), colV (maskOf l), v] w fun e w' => ∃ L tag' lm', e = .returned (.pointer (some ⟨L, 0, none⟩)) ∧
      Keep (fun b => tag b = none) w w' ∧ RelOwn tag' w' B n ts vD P K lm' ∧ (maskOf l, L) ∈ lm' ∧ TagLe tag tag' ∧ TagNew tag tag' w ∧ ∀ p, p ∈ lm → p ∈ lm' := by
  obtain ⟨a, cc, rfl, hlt, hct, het⟩ := id hs
  have hB := heap_lt h.box
  have hn16 := h.n16
  have hll : l.length ≤ 16 := by have := rowD_len hrow; omega
  have hcok := col_ok (mask_len l)
  obtain ⟨k0, k1, k2, k3, k4, k5, k6, k7, k8, k9, k10, k11, k12, k13, k14, k15, hpad⟩ : ∃ k0 k1 k2 k3 k4 k5 k6 k7 k8 k9 k10 k11 k12 k13 k14 k15, maskOf l = [k0, k1, k2, k3, k4, k5, k6, k7, k8, k9, k10, k11, k12, k13, k14, k15] := by
    have hlen := mask_len l
    match h : maskOf l, hlen with
    | [k0, k1, k2, k3, k4, k5, k6, k7, k8, k9, k10, k11, k12, k13, k14, k15], _ => exact ⟨k0, k1, k2, k3, k4, k5, k6, k7, k8, k9, k10, k11, k12, k13, k14, k15, rfl⟩
  have hcv : colV (maskOf l) = .agg #[.bool k0, .bool k1, .bool k2, .bool k3, .bool k4, .bool k5, .bool k6, .bool k7, .bool k8, .bool k9, .bool k10, .bool k11, .bool k12, .bool k13, .bool k14, .bool k15] := by rw [hpad]; rfl
  obtain ⟨Wb, hWb⟩ : ∃ Wb, w.alloc (.cells #[.bool k0, .bool k1, .bool k2, .bool k3, .bool k4, .bool k5, .bool k6, .bool k7, .bool k8, .bool k9, .bool k10, .bool k11, .bool k12, .bool k13, .bool k14, .bool k15] 85) = Wb := ⟨_, rfl⟩
  obtain ⟨Wd, hWd⟩ : ∃ Wd, Wb.drew = Wd := ⟨_, rfl⟩
  have kwd : Keep (fun _ => True) w Wd := by rw [← hWd, ← hWb]; exact (Keep.alloc _ _ _).trans (Keep.drew _ _)
  have hqd : Wd.heap[w.heap.size]? = some (.cells #[.bool k0, .bool k1, .bool k2, .bool k3, .bool k4, .bool k5, .bool k6, .bool k7, .bool k8, .bool k9, .bool k10, .bool k11, .bool k12, .bool k13, .bool k14, .bool k15] 85 (0, 0)) := by rw [← hWd, ← hWb]; exact new_block _ _
  have hzd : Wd.heap.size = w.heap.size + 1 := by rw [← hWd, ← hWb]; simp
  have hd := h.keep kwd (fun _ _ _ _ => trivial)
  have r0 := cells_of_block hqd 0 _ rfl
  have r1 := cells_of_block hqd 1 _ rfl
  have r2 := cells_of_block hqd 2 _ rfl
  have r3 := cells_of_block hqd 3 _ rfl
  have r4 := cells_of_block hqd 4 _ rfl
  have r5 := cells_of_block hqd 5 _ rfl
  have r6 := cells_of_block hqd 6 _ rfl
  have r7 := cells_of_block hqd 7 _ rfl
  have r8 := cells_of_block hqd 8 _ rfl
  have r9 := cells_of_block hqd 9 _ rfl
  have r10 := cells_of_block hqd 10 _ rfl
  have r11 := cells_of_block hqd 11 _ rfl
  have r12 := cells_of_block hqd 12 _ rfl
  have r13 := cells_of_block hqd 13 _ rfl
  have r14 := cells_of_block hqd 14 _ rfl
  have r15 := cells_of_block hqd 15 _ rfl
  have b4 := cells_of_block hd.box 4 _ rfl
  simp only [Nat.zero_add] at b4 r0 r1 r2 r3 r4 r5 r6 r7 r8 r9 r10 r11 r12 r13 r14 r15
  have hlk := run_lookK (P := Try.prog) Try.underlying77 arrCols.law colV_inj zero_look hd.kmap (maskOf l) hcok false
  rw [hcv] at hlk ⊢
  have hBd : B < Wd.heap.size := heap_lt hd.box
  have hsd : w.heap.size < Wd.heap.size := by omega
  clear hpad
  have Xh := Lib.hid h
  have Xhs := Lib.hid hs
  have Xhet := Lib.hid het
  have Xhrow := Lib.hid hrow
  have Xhcok := Lib.hid hcok
  have Xhcv := Lib.hid hcv
  have Xhqd := Lib.hid hqd
  have Xkwd := Lib.hid kwd
  clear h hs het hrow hcok hcv hqd kwd
  go_enter Try.func44, Try.ntmps44
  cases hkk : lookK lm (maskOf l) with
  | some L =>
    have hin : (maskOf l, L) ∈ lm := by
      unfold lookK at hkk
      cases hf : lm.find? (fun p => decide (p.1 = maskOf l)) with
      | none => rw [hf] at hkk; cases hkk
      | some p =>
        rw [hf] at hkk
        have h1 := List.find?_some hf
        have h2 := List.mem_of_find?_eq_some hf
        simp only [decide_eq_true_eq] at h1
        cases hkk
        rw [← h1]
        exact h2
    rw [hkk] at hlk
    simp only [Bool.false_eq_true, if_false] at hlk
    have Xhkk := Lib.hid hkk
    have Xhin := Lib.hid hin
    have Xhd := Lib.hid hd
    clear hkk hin hd
    go_wp2_with fail
    subst hWd
    go_region
    clear r0 r1 r2 r3 r4 r5 r6 r7 r8 r9 r10 r11 r12 r13 r14 r15 b4 hlk hzd hBd hsd
    go_wp2_with fail
    go_ret
    exact ⟨L, tag, lm, rfl, Xkwd.out.mono (fun _ _ _ => trivial), Xhd.out, Xhin.out, TagLe.refl _, TagNew.refl _ _, fun _ h => h⟩
  | none =>
    have hno : maskOf l ∉ lm.map (·.1) := fun hm2 => by
      obtain ⟨p, hp, he⟩ := List.mem_map.1 hm2
      have := List.find?_eq_none.1 (Option.map_eq_none_iff.1 hkk) p hp
      simp [he] at this
    rw [hkk] at hlk
    simp only [Bool.false_eq_true, if_false] at hlk
    have Xhkk := Lib.hid hkk
    have Xhno := Lib.hid hno
    have Xhd := Lib.hid hd
    clear hkk hno hd
    go_wp2_with fail
    subst hWd
    go_region
    generalize Wb.drew = Wd at *
    clear r0 r1 r2 r3 r4 r5 r6 r7 r8 r9 r10 r11 r12 r13 r14 r15 b4 hlk hWb
    obtain ⟨W1, hW1⟩ : ∃ W1, Wd.alloc (.cells #[] 3) = W1 := ⟨_, rfl⟩
    have k1 : Keep (fun _ => True) Wd W1 := by rw [← hW1]; exact Keep.alloc _ _ _
    have z1 : W1.heap.size = Wd.heap.size + 1 := by rw [← hW1]; simp
    have ho1 : W1.ownsRow 0 3 1 (.slice (some ⟨Wd.heap.size, 0, none⟩) 0 0) 0 [] := by rw [← hW1]; exact World.ownsRow_made Wd #[] 0 (Nat.zero_le _) (by simp [maxLen]) rfl
    have kf1 : Keep (fun _ => True) w W1 := Xkwd.out.trans k1
    have hs1 := ints_stay Xhs.out (m := m) (kf1.mono fun _ _ _ => trivial) (Nat.le_refl _)
    have hcl := slice_cells (sz := 1) ic (fun _ => rfl) (by omega) (E := IntE) (fun b o x h j u hj => by
      have hj0 : j = 0 := by have := (List.getElem?_eq_some_iff.1 hj).1; simp [ic] at this; exact this
      subst hj0
      simp [ic] at hj
      subst hj
      exact h) hs1 rfl
    obtain ⟨vl, W2, hr2, ho2, hg2, kw2⟩ := appA (P := Try.prog) el_int 23 ho1 a l.length cc (l.flatMap ic) (flatMap_len _ 1 (fun _ => rfl) _) hcl.1 hcl.2 (flat_one _ (by simp [ic, Value.oneCell']) _) (by omega) (Nat.zero_le _)
    rw [ic_map, List.nil_append, Nat.zero_add] at ho2
    obtain ⟨al, cl, rfl⟩ := own_form ho2
    have hgl : ∀ g, Value.ownBlock (.slice al l.length cl) = some g → Wd.heap.size ≤ g ∧ g < W2.heap.size := fun g hgg => ⟨by
      rcases hg2 g hgg with h1 | h1
      · simp only [Value.ownBlock, Option.some.injEq] at h1; omega
      · omega, (World.ownsRow.lt ho2 g hgg).2⟩
    have hmm := @run_makeMap Try.prog
    obtain ⟨M, hM⟩ : ∃ M, W2.heap.size = M := ⟨_, rfl⟩
    obtain ⟨W3, hW3⟩ : ∃ W3, W2.alloc (.map #[] 0) = W3 := ⟨_, rfl⟩
    obtain ⟨L, hL⟩ : ∃ L, W3.heap.size = L := ⟨_, rfl⟩
    obtain ⟨W4, hW4⟩ : ∃ W4, W3.alloc (.cells #[.slice al l.length cl, .map (some M)] 92) = W4 := ⟨_, rfl⟩
    have k3 : Keep (fun _ => True) W2 W3 := by rw [← hW3]; exact Keep.alloc _ _ _
    have k4 : Keep (fun _ => True) W3 W4 := by rw [← hW4]; exact Keep.alloc _ _ _
    have z3 : W3.heap.size = W2.heap.size + 1 := by rw [← hW3]; simp
    have z4 : W4.heap.size = W3.heap.size + 1 := by rw [← hW4]; simp
    have hzk := kw2.size
    have k24 : Keep (fun b => b < Wd.heap.size) Wd W4 := (k1.mono fun _ _ _ => trivial).trans ((kw2.mono fun b _ h e => by have := (hgl b e).1; omega).trans ((k3.mono fun _ _ _ => trivial).trans (k4.mono fun _ _ _ => trivial)))
    have kd0 := k24
    have hLA0 : LookAt (fun b => if b = L then some (.lbox (maskOf l)) else if b = M then some (.lmap (maskOf l)) else if Value.ownBlock (.slice al l.length cl) = some b then some (.llist (maskOf l)) else none) W4 n (ts.take 0) (maskOf l) L l (.slice al l.length cl) M [] := by
      refine ⟨Xhrow.out, rfl, if_pos rfl, by rw [← hW4, ← hL]; exact new_block _ _, by rw [if_neg (by omega), if_pos rfl], ?_, own_kept (own_kept ho2 k3 (fun _ _ => trivial)) k4 (fun _ _ => trivial), fun b hb => ?_, fun k => by simp, by simp, fun k v hkv => (by cases hkv), fun b k p hb j hj => ?_⟩
      · have := (mapIn_new (P := Try.prog) (K := 81) (ek := keyV) (ev := fun v : Value => v) W2).keep (w' := W4) (C := fun _ => True) (by rw [hW3]; exact k4) trivial
        rw [hM] at this
        exact this
      · have := hgl b hb
        rw [if_neg (by omega), if_neg (by omega), if_pos hb]
      · split at hb
        · cases hb
        · split at hb
          · cases hb
          · split at hb <;> cases hb
    have hN0 : ∀ b T, (fun b => if b = L then some (Tag.lbox (maskOf l)) else if b = M then some (.lmap (maskOf l)) else if Value.ownBlock (.slice al l.length cl) = some b then some (.llist (maskOf l)) else none) b = some T → Wd.heap.size ≤ b ∧ b < W4.heap.size ∧ lookT (some T) = some (maskOf l) := by
      intro b T hb
      simp only at hb
      split at hb
      · cases hb; exact ⟨by omega, by omega, rfl⟩
      · split at hb
        · cases hb; exact ⟨by omega, by omega, rfl⟩
        · split at hb
          · rename_i e
            have := hgl b e
            cases hb; exact ⟨by omega, by omega, rfl⟩
          · cases hb
    have hq4 := k24.heap Xhqd.out hsd
    have hd4 := Xhd.out.keep k24 (fun b T hb hlt => hlt)
    have b2 := cells_of_block hd4.box 2 _ rfl
    simp only [Nat.zero_add] at b2
    have hB4 := heap_lt hd4.box
    clear k1 ho1 kf1 hs1 hcl ho2 hg2 kw2 hgl k3 k4 k24 hzk z1 z3 z4 hBd
    have Xhr2 := Lib.hid hr2
    have Xkd0 := Lib.hid kd0
    have XhLA0 := Lib.hid hLA0
    have XhN0 := Lib.hid hN0
    have Xhq4 := Lib.hid hq4
    have Xhd4 := Lib.hid hd4
    have Xhzd := Lib.hid hzd
    clear hr2 kd0 hLA0 hN0 hq4 hd4 hzd
    go_wp2_with (at_builtin; refine go_app (v := .slice (some ⟨Wd.heap.size, 0, none⟩) 0 0) (u := .slice a l.length cc) (v' := .slice al l.length cl) (w' := W2) rfl (.tmp 19) (.tmp 20) 23 rfl rfl rfl Xhr2.out ?_)
    clear hW1 hM hW3 hL hW4 hmm b2 Xhr2
    go_loopw [29] (fun i wr => ∃ (k : Nat) (tagN : Tags) (mk : List (List Int × Value)), k ≤ ts.length ∧ i = .int .i64 k ∧ LookAt tagN wr n (ts.take k) (maskOf l) L l (.slice al l.length cl) M mk ∧ (∀ b T, tagN b = some T → Wd.heap.size ≤ b ∧ b < wr.heap.size ∧ lookT (some T) = some (maskOf l)) ∧ Keep (fun b => b < Wd.heap.size) Wd wr) (fun i _ => ts.length - (intOf i).toNat)
    case atStart => exact ⟨0, _, _, by omega, rfl, XhLA0.out, XhN0.out, Xkd0.out⟩
    case round =>
      obtain ⟨k, tagN, mk, hk, rfl, hLA, hN, hK⟩ := hrel
      have hdk := Xhd.out.keep hK (fun b T hb hlt => hlt)
      have hBk := heap_lt hdk.box
      by_cases hlt' : k < ts.length
      · obtain ⟨t, ht⟩ : ∃ t, ts[k]? = some t := ⟨_, List.getElem?_eq_getElem hlt'⟩
        have hlt1 : (k : Int) < ts.length := by omega
        have hk0 : (0 : Int) ≤ k := by omega
        have htk : ts.take (k + 1) = ts.take k ++ [t] := by rw [List.take_add_one, ht]; rfl
        have htl : (ts.take k).length = k := by rw [List.length_take]; omega
        have XhLA := Lib.hid hLA
        have XhN := Lib.hid hN
        have XhK := Lib.hid hK
        have Xhdk := Lib.hid hdk
        have Xht := Lib.hid ht
        have Xhtk := Lib.hid htk
        have Xhtl := Lib.hid htl
        clear hLA hN hK hdk ht htk htl
        go_wp2_with fail
        refine (tuple_any Xhdk.out (by omega) k t Xht.out).mono ?_
        rintro e w1 ⟨vt, rfl, kt1, zt1, hvt, htn⟩
        have hvt1 : IntsIn w1.heap.size w1 vt t := ints_wider (ints_stay hvt (m := wr.heap.size) (kt1.mono fun _ _ _ => trivial) (Nat.le_refl _)) kt1.size
        have hLA1 := XhLA.out.keep kt1 (tag' := tagN) (fun _ _ => trivial) (fun _ _ => rfl) (fun _ _ => rfl)
        have hj := join_any hLA1 (fun b T hb => Nat.lt_of_lt_of_le (XhN.out b T hb).2.1 kt1.size) hn16 (by rw [Xhtl.out]; omega) vt t hvt1 htn (Xhdk.out.ok t (List.mem_of_getElem? Xht.out)) hll
        rw [Xhtl.out] at hj
        clear hvt hLA1 zt1 htn
        have Xhj := Lib.hid hj
        have Xkt1 := Lib.hid kt1
        have Xhvt1 := Lib.hid hvt1
        clear hj kt1 hvt1
        go_wp2_with fail
        refine Xhj.out.mono ?_
        rintro e w2 ⟨rfl, tag2, m2, hLA2, hst, hk2⟩
        have hN2 : ∀ b T, tag2 b = some T → Wd.heap.size ≤ b ∧ b < w2.heap.size ∧ lookT (some T) = some (maskOf l) := fun b T hb => by
          have hb2 := (hst.new b T hb).1
          rcases Nat.lt_or_ge b w1.heap.size with hb1 | hb1
          · cases hT : tagN b with
            | none =>
              have := hst.old b hb1 (by rw [hT]; exact fun e => (by cases e))
              rw [hb, hT] at this; cases this
            | some T' =>
              have h3 := XhN.out b T' hT
              refine ⟨h3.1, hb2, ?_⟩
              rcases hst.le b T' hT with h4 | ⟨c2, k2, p2, p3, rfl, h4, _⟩
              · rw [hb] at h4; cases h4; exact h3.2.2
              · rw [hb] at h4; cases h4; exact h3.2.2
          · have h5 := (hst.new b T hb).2 hb1
            refine ⟨?_, hb2, h5⟩
            have := XhK.out.size
            have := Xkt1.out.size
            omega
        have hK2 : Keep (fun b => b < Wd.heap.size) Wd w2 := XhK.out.trans ((Xkt1.out.mono fun _ _ _ => trivial).trans (hk2.mono fun b _ h => by
          cases hT : tagN b with
          | none => exact fun e => (by cases e)
          | some T => have := (XhN.out b T hT).1; omega))
        rw [← Xhtk.out] at hLA2
        clear hst hk2
        have XhLA2 := Lib.hid hLA2
        have XhN2 := Lib.hid hN2
        have XhK2 := Lib.hid hK2
        clear hLA2 hN2 hK2
        go_wp2_with fail
        go_roundw
        case rel => exact ⟨k + 1, tag2, m2, by omega, by go_num, XhLA2.out, XhN2.out, XhK2.out⟩
        case measure => simp [intOf]; omega
      · obtain rfl : k = ts.length := by omega
        rw [List.take_length] at hLA
        obtain ⟨We, hWe⟩ : ∃ We, wr.drew = We := ⟨_, rfl⟩
        have kwe : Keep (fun _ => True) wr We := by rw [← hWe]; exact Keep.drew _ _
        have hde := hdk.keep kwe (fun _ _ _ _ => trivial)
        have hLAe := hLA.keep kwe (tag' := tagN) (fun _ _ => trivial) (fun _ _ => rfl) (fun _ _ => rfl)
        have hKe : Keep (fun b => b < Wd.heap.size) Wd We := hK.trans (kwe.mono fun _ _ _ => trivial)
        have hqe := hKe.heap Xhqd.out hsd
        have r0 := cells_of_block hqe 0 _ rfl
        have r1 := cells_of_block hqe 1 _ rfl
        have r2 := cells_of_block hqe 2 _ rfl
        have r3 := cells_of_block hqe 3 _ rfl
        have r4 := cells_of_block hqe 4 _ rfl
        have r5 := cells_of_block hqe 5 _ rfl
        have r6 := cells_of_block hqe 6 _ rfl
        have r7 := cells_of_block hqe 7 _ rfl
        have r8 := cells_of_block hqe 8 _ rfl
        have r9 := cells_of_block hqe 9 _ rfl
        have r10 := cells_of_block hqe 10 _ rfl
        have r11 := cells_of_block hqe 11 _ rfl
        have r12 := cells_of_block hqe 12 _ rfl
        have r13 := cells_of_block hqe 13 _ rfl
        have r14 := cells_of_block hqe 14 _ rfl
        have r15 := cells_of_block hqe 15 _ rfl
        have b4 := cells_of_block hde.box 4 _ rfl
        simp only [Nat.zero_add] at b4 r0 r1 r2 r3 r4 r5 r6 r7 r8 r9 r10 r11 r12 r13 r14 r15
        obtain ⟨W6, hup, hm6, kw6, hz6⟩ := run_setK (P := Try.prog) Try.underlying77 arrCols.law colV_inj hde.kmap (maskOf l) Xhcok.out L
        rw [Xhcv.out] at hup
        obtain ⟨hG6, hle6⟩ := by_merge hde hLAe (fun b T hb => ⟨by
          cases hT : tag b with
          | none => rfl
          | some T' => have := Xhd.out.lt b T' hT; have := (hN b T hb).1; omega, by have := (hN b T hb).2.1; have := kwe.size; omega, (hN b T hb).2.2⟩) Xhno.out hm6 kw6 (fun b T hb e => by
            obtain ⟨L', h1⟩ := hde.ents b (maskOf l) (by rw [hb]; exact e)
            exact Xhno.out (List.mem_map.2 ⟨_, h1, rfl⟩))
        have hnew6 : TagNew tag (fun b => match tagN b with | some T => some T | none => tag b) w := fun b T hb => by
          cases hT : tagN b with
          | none => simp only [hT] at hb; exact .inl ⟨T, hb⟩
          | some T' => have := (hN b T' hT).1; exact .inr (by omega)
        have kf6 : Keep (fun b => tag b = none) w W6 := by
          refine ⟨kw6.os.trans (hKe.os.trans Xkwd.out.os), kw6.tape.trans (hKe.tape.trans Xkwd.out.tape), kw6.output.trans (hKe.output.trans Xkwd.out.output), ?_, fun b hb hC => ?_⟩
          · have := kw6.size; have := hKe.size; omega
          · rw [kw6.block b (by have := hKe.size; omega) (fun e => by rw [e, Xhd.out.tagK] at hC; cases hC), hKe.block b (by omega) (by omega)]
            exact Xkwd.out.block b hb trivial
        have hBe := heap_lt hde.box
        have hqel := heap_lt hqe
        clear hde hLAe hKe hqe hm6 kw6 hz6 hN hLA hK hdk kwe
        have XhG6 := Lib.hid hG6
        have Xhle6 := Lib.hid hle6
        have Xhnew6 := Lib.hid hnew6
        have Xkf6 := Lib.hid kf6
        clear hG6 hle6 hnew6 kf6
        subst hWe
        go_wp2_with fail
        go_region
        clear r0 r1 r2 r3 r4 r5 r6 r7 r8 r9 r10 r11 r12 r13 r14 r15 b4 hup
        go_wp2_with fail
        go_ret
        exact ⟨L, _, _, rfl, Xkf6.out, XhG6.out, by simp, Xhle6.out, Xhnew6.out, fun p hp => List.mem_append_left _ hp⟩
end Go.Proofs
