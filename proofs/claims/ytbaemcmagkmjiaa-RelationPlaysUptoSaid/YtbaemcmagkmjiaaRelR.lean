/- Layer 4, the program's relation: found (the places of the tuples that have a key in some columns). -/
import Derived.Test.YtbaemcmagkmjiaaProg
import Derived.Test.YtbaemcmagkmjiaaRelQ
namespace Go.Proofs
open Go.RowKit Go.Ink
set_option linter.unusedVariables false
set_option linter.unusedSimpArgs false
attribute [local go_sem] Oper.semAt_some

theorem wpAnyL_to {P : Program} {ops : Array Oper} {Q : Exit → Act → World → Prop} {md : Region.Mode} {S S' : World → Prop} {late : List Nat} (hS : ∀ w, S' w → S w) : ∀ (fuel : Nat) (listed : Array Bool) (a : Act) (w : World), wpAnyL P md ops Q S' late fuel listed a w → wpAnyL P md ops Q S late fuel listed a w
  | 0, _, _, _, h => h
  | fuel + 1, _, _, _, h => ⟨h.1, fun i hi => wpOp_mono (fun a' w' h' => ⟨fun hl => hS _ (h'.1 hl), wpAnyL_to hS fuel _ a' w' h'.2⟩) (h.2 i hi)⟩

/-- what found answers of a key -/
def FoundV (tag : Tags) (w : World) (ts : List (List Int)) (cols key : List Int) (v : Value) : Prop :=
  w.ownsRow 0 3 1 v (idx ts cols (padK key)).length ((idx ts cols (padK key)).map natV) ∧ ∀ b, v.ownBlock = some b → tag b = some (.ent (maskOf cols) (padK key) (idx ts cols (padK key)).length)

theorem idx_nil {tag : Tags} {w : World} {n : Nat} {ts : List (List Int)} {c : List Bool} {L M : Nat} {l : List Int} {vl : Value} {m : List (List Int × Value)} (h : LookAt tag w n ts c L l vl M m) {k : List Int} (hk : k ∉ m.map (·.1)) : idx ts l k = [] := by
  refine List.filter_eq_nil_iff.2 fun i hi => ?_
  rw [List.mem_range] at hi
  simp only [decide_eq_true_eq]
  intro he
  refine hk ((h.keys _).2 ⟨ts.getD i [], ?_, he⟩)
  rw [List.getD_eq_getElem?_getD, List.getElem?_eq_getElem hi]
  exact List.getElem_mem hi

/-- two rows of columns with the same bools are one -/
theorem rows_same {n : Nat} {l l' : List Int} (h : rowD n l = true) (h' : rowD n l' = true) (hn : n ≤ 16) (hm : maskOf l = maskOf l') : l = l' := by
  have hmem : ∀ x : Int, 0 ≤ x → x < 16 → (x ∈ l ↔ x ∈ l') := fun x h0 h1 => by
    have := congrArg (fun m => m[x.toNat]?) hm
    simp only [maskOf, List.getElem?_map] at this
    rw [List.getElem?_range (by omega)] at this
    have hx : ((x.toNat : Nat) : Int) = x := by omega
    simpa [hx] using this
  have hmem2 : ∀ x : Int, x ∈ l ↔ x ∈ l' := fun x => by
    constructor
    · intro hx
      have := rowD_at h x hx
      exact (hmem x this.1 (by omega)).1 hx
    · intro hx
      have := rowD_at h' x hx
      exact (hmem x this.1 (by omega)).2 hx
  have hs : ∀ {l : List Int}, rowD n l = true → l.Pairwise (· < ·) := fun {l} h => by
    rw [List.pairwise_iff_getElem]
    have hstep : ∀ i, (hi : i + 1 < l.length) → l[i] < l[i + 1] := fun i hi => by
      have := List.all_eq_true.1 h (i + 1) (by simpa using hi)
      simp only [okAt, Bool.and_eq_true, decide_eq_true_eq, Bool.or_eq_true, beq_iff_eq] at this
      have h2 := this.2.resolve_left (by omega)
      rw [Nat.add_sub_cancel, List.getD_eq_getElem?_getD, List.getD_eq_getElem?_getD, List.getElem?_eq_getElem hi, List.getElem?_eq_getElem (by omega)] at h2
      exact h2
    have hall : ∀ d i, (hi : i + d + 1 < l.length) → l[i] < l[i + d + 1] := fun d => by
      induction d with
      | zero => exact fun i hi => hstep i hi
      | succ d ih => exact fun i hi => Int.lt_trans (ih i (by omega)) (hstep (i + d + 1) hi)
    intro i j hi hj hij
    have := hall (j - i - 1) i (by omega)
    have e : i + (j - i - 1) + 1 = j := by omega
    simpa only [e] using this
  have go : ∀ (a b : List Int), a.Pairwise (· < ·) → b.Pairwise (· < ·) → (∀ x, x ∈ a ↔ x ∈ b) → a = b := fun a => by
    induction a with
    | nil =>
      intro b _ _ hab
      cases b with
      | nil => rfl
      | cons y b => exact absurd ((hab y).2 (by simp)) (by simp)
    | cons x a ih =>
      intro b ha hb hab
      cases b with
      | nil => exact absurd ((hab x).1 (by simp)) (by simp)
      | cons y b =>
        rw [List.pairwise_cons] at ha hb
        have hxy : x = y := by
          rcases List.mem_cons.1 ((hab x).1 (by simp)) with h1 | h1
          · exact h1
          · rcases List.mem_cons.1 ((hab y).2 (by simp)) with h2 | h2
            · exact h2.symm
            · have := ha.1 y h2
              have := hb.1 x h1
              omega
        subst hxy
        rw [ih b ha.2 hb.2 (fun z => by
          constructor
          · intro hz
            rcases List.mem_cons.1 ((hab z).1 (by simp [hz])) with h1 | h1
            · have := ha.1 z hz; omega
            · exact h1
          · intro hz
            rcases List.mem_cons.1 ((hab z).2 (by simp [hz])) with h1 | h1
            · have := hb.1 z hz; omega
            · exact h1)]
  exact go l l' (hs h) (hs h') hmem2

set_option maxRecDepth 100000 in
set_option maxHeartbeats 4000000 in
theorem found_any {tag : Tags} {w : World} {B n : Nat} {ts : List (List Int)} {vD : Value} {P K : Nat} {lm : List (List Bool × Nat)} (h : RelOwn tag w B n ts vD P K lm) (hl : ts.length ≤ 134217728) (m : Nat) (vc vk : Value) (cols key : List Int) (hs : IntsIn m w vc cols) (hsk : IntsIn m w vk key) (hm : m ≤ w.heap.size)
    (hok : okT key) (hfk : FreeOf tag vk) :
    Calls Try.prog 33 #[.pointer (some ⟨B, 0, none⟩), vc, vk] w fun e w' => ∃ v tag' lm', e = .returned (.tuple #[v, .bool (rowD n cols && decide (key.length = cols.length))]) ∧
      Keep (fun b => tag b = none) w w' ∧ RelOwn tag' w' B n ts vD P K lm' ∧ TagLe tag tag' ∧ TagNew tag tag' w ∧ (∀ p, p ∈ lm → p ∈ lm') ∧
      (rowD n cols = true → key.length = cols.length → FoundV tag' w' ts cols key v ∧ ∃ L, (maskOf cols, L) ∈ lm') ∧ ((rowD n cols && decide (key.length = cols.length)) = false → v = .slice none 0 0) := by
  obtain ⟨a, cc, rfl, hlt, hct, het⟩ := id hs
  obtain ⟨ak, ck, rfl, hltk, hctk, hetk⟩ := id hsk
  have hB := heap_lt h.box
  have hn16 := h.n16
  have Xh := Lib.hid h
  have Xhs := Lib.hid hs
  have Xhet := Lib.hid het
  have Xhsk := Lib.hid hsk
  have Xhetk := Lib.hid hetk
  have Xhok := Lib.hid hok
  have Xhfk := Lib.hid hfk
  clear h hs het hsk hetk hok hfk
  go_enter Try.func33, Try.ntmps33
  go_wp2_with fail
  refine (made_any Xh.out.box).mono ?_
  rintro e w1 ⟨rfl, hw1⟩
  have hw1 := hw1.symm
  subst hw1
  by_cases hlen : key.length = cols.length
  · have hne : ((key.length : Int) != cols.length) = false := by simp [hlen]
    have hd : decide (key.length = cols.length) = true := decide_eq_true hlen
    have Xhlen := Lib.hid hlen
    have Xhd := Lib.hid hd
    clear hlen hd
    go_wp2_with fail
    refine (row_any Xh.out.box hn16 m _ cols Xhs.out hm).mono ?_
    rintro e W1 ⟨rfl, kw1⟩
    obtain ⟨k0, k1, k2, k3, k4, k5, k6, k7, k8, k9, k10, k11, k12, k13, k14, k15, hpad⟩ : ∃ k0 k1 k2 k3 k4 k5 k6 k7 k8 k9 k10 k11 k12 k13 k14 k15, rowC n cols = [k0, k1, k2, k3, k4, k5, k6, k7, k8, k9, k10, k11, k12, k13, k14, k15] := by
      have hlen : (rowC n cols).length = 16 := by unfold rowC; split <;> exact mask_len _
      match h : rowC n cols, hlen with
      | [k0, k1, k2, k3, k4, k5, k6, k7, k8, k9, k10, k11, k12, k13, k14, k15], _ => exact ⟨k0, k1, k2, k3, k4, k5, k6, k7, k8, k9, k10, k11, k12, k13, k14, k15, rfl⟩
    have hcv : colV (rowC n cols) = .agg #[.bool k0, .bool k1, .bool k2, .bool k3, .bool k4, .bool k5, .bool k6, .bool k7, .bool k8, .bool k9, .bool k10, .bool k11, .bool k12, .bool k13, .bool k14, .bool k15] := by rw [hpad]; rfl
    rw [hcv]
    obtain ⟨W0, hW0⟩ : ∃ W0, W1.alloc (.cells #[.bool false, .bool false, .bool false, .bool false, .bool false, .bool false, .bool false, .bool false, .bool false, .bool false, .bool false, .bool false, .bool false, .bool false, .bool false, .bool false] 85) = W0 := ⟨_, rfl⟩
    obtain ⟨nb, hnb⟩ : ∃ nb, W1.heap.size = nb := ⟨_, rfl⟩
    have n1 : W0.heap[nb]? = some (.cells #[.bool false, .bool false, .bool false, .bool false, .bool false, .bool false, .bool false, .bool false, .bool false, .bool false, .bool false, .bool false, .bool false, .bool false, .bool false, .bool false] 85 (0, 0)) := by rw [← hW0, ← hnb]; exact new_block _ _
    have kw0 : Keep (fun b => b < w.heap.size) w W0 := by rw [← hW0]; exact kw1.trans (Keep.alloc _ _ _)
    have s0 : nb < W0.heap.size := heap_lt n1
    have hwn : w.heap.size ≤ nb := by rw [← hnb]; exact kw1.size
    have z0 := cells_of_block n1 0 _ rfl
    have f0 := box_free n1 0
    have z1 := cells_of_block n1 1 _ rfl
    have f1 := box_free n1 1
    have z2 := cells_of_block n1 2 _ rfl
    have f2 := box_free n1 2
    have z3 := cells_of_block n1 3 _ rfl
    have f3 := box_free n1 3
    have z4 := cells_of_block n1 4 _ rfl
    have f4 := box_free n1 4
    have z5 := cells_of_block n1 5 _ rfl
    have f5 := box_free n1 5
    have z6 := cells_of_block n1 6 _ rfl
    have f6 := box_free n1 6
    have z7 := cells_of_block n1 7 _ rfl
    have f7 := box_free n1 7
    have z8 := cells_of_block n1 8 _ rfl
    have f8 := box_free n1 8
    have z9 := cells_of_block n1 9 _ rfl
    have f9 := box_free n1 9
    have z10 := cells_of_block n1 10 _ rfl
    have f10 := box_free n1 10
    have z11 := cells_of_block n1 11 _ rfl
    have f11 := box_free n1 11
    have z12 := cells_of_block n1 12 _ rfl
    have f12 := box_free n1 12
    have z13 := cells_of_block n1 13 _ rfl
    have f13 := box_free n1 13
    have z14 := cells_of_block n1 14 _ rfl
    have f14 := box_free n1 14
    have z15 := cells_of_block n1 15 _ rfl
    have f15 := box_free n1 15
    simp only [Nat.zero_add] at z0 z1 z2 z3 z4 z5 z6 z7 z8 z9 z10 z11 z12 z13 z14 z15
    obtain ⟨rd, hrd⟩ : ∃ rd, rowD n cols = rd := ⟨_, rfl⟩
    rw [hrd]
    clear kw1 hpad
    have Xn1 := Lib.hid n1
    have Xkw0 := Lib.hid kw0
    have Xhcv := Lib.hid hcv
    have Xhrd := Lib.hid hrd
    clear n1 kw0 hcv hrd
    cases rd with
    | false =>
      go_wp2_with fail
      refine post_abs (fun W => Keep (fun k => k < w.heap.size) w W) (w := chain nb [.bool k0, .bool k1, .bool k2, .bool k3, .bool k4, .bool k5, .bool k6, .bool k7, .bool k8, .bool k9, .bool k10, .bool k11, .bool k12, .bool k13, .bool k14, .bool k15] 0 W0) (Xkw0.out.trans ((chain_keep _ _ _ _).mono (fun b _ h => by omega))) ?_
      clear z0 z1 z2 z3 z4 z5 z6 z7 z8 z9 z10 z11 z12 z13 z14 z15 f0 f1 f2 f3 f4 f5 f6 f7 f8 f9 f10 f11 f12 f13 f14 f15 Xn1 Xkw0 s0 hnb hW0
      rintro W3 kw3
      have hT := Xh.out.keep kw3 (fun b T hb hlt => hlt)
      have Xkw3 := Lib.hid kw3
      have XhT := Lib.hid hT
      clear kw3 hT
      go_ret2
      exact ⟨.slice none 0 0, tag, lm, by rw [Xhrd.out]; rfl, Xkw3.out.mono (fun b hb _ => hb), XhT.out, TagLe.refl _, TagNew.refl _ _, fun _ h => h, fun h => (by rw [Xhrd.out] at h; cases h), fun _ => rfl⟩
    | true =>
      go_wp2_with fail
      refine w_abs (fun W => W.heap[nb]? = some (.cells #[.bool k0, .bool k1, .bool k2, .bool k3, .bool k4, .bool k5, .bool k6, .bool k7, .bool k8, .bool k9, .bool k10, .bool k11, .bool k12, .bool k13, .bool k14, .bool k15] 85 (0, 0)) ∧ Keep (fun k => k < w.heap.size) w W) (w := chain nb [.bool k0, .bool k1, .bool k2, .bool k3, .bool k4, .bool k5, .bool k6, .bool k7, .bool k8, .bool k9, .bool k10, .bool k11, .bool k12, .bool k13, .bool k14, .bool k15] 0 W0) ⟨chain_full [.bool k0, .bool k1, .bool k2, .bool k3, .bool k4, .bool k5, .bool k6, .bool k7, .bool k8, .bool k9, .bool k10, .bool k11, .bool k12, .bool k13, .bool k14, .bool k15] Xn1.out rfl, Xkw0.out.trans ((chain_keep _ _ _ _).mono (fun b _ h => by omega))⟩ ?_
      clear z0 z1 z2 z3 z4 z5 z6 z7 z8 z9 z10 z11 z12 z13 z14 z15 f0 f1 f2 f3 f4 f5 f6 f7 f8 f9 f10 f11 f12 f13 f14 f15 Xn1 Xkw0 s0 hnb hW0
      rintro W3 ⟨hq, kw3⟩
      have hcm : colV (maskOf cols) = .agg #[.bool k0, .bool k1, .bool k2, .bool k3, .bool k4, .bool k5, .bool k6, .bool k7, .bool k8, .bool k9, .bool k10, .bool k11, .bool k12, .bool k13, .bool k14, .bool k15] := by
        have := Xhcv.out
        unfold rowC at this
        rw [Xhrd.out, if_pos rfl] at this
        exact this
      obtain ⟨Wd, hWd⟩ : ∃ Wd, W3.drew = Wd := ⟨_, rfl⟩
      have kwd : Keep (fun k => k < w.heap.size) w Wd := by rw [← hWd]; exact kw3.trans (Keep.drew _ _)
      have hqd : Wd.heap[nb]? = some (.cells #[.bool k0, .bool k1, .bool k2, .bool k3, .bool k4, .bool k5, .bool k6, .bool k7, .bool k8, .bool k9, .bool k10, .bool k11, .bool k12, .bool k13, .bool k14, .bool k15] 85 (0, 0)) := by rw [← hWd]; exact hq
      have hT := Xh.out.keep kwd (fun b T hb hlt => hlt)
      have hsd := ints_stay Xhs.out (m := m) (kwd.mono fun _ _ h => by omega) (Nat.le_refl _)
      have hby := by_any hT hl m _ cols hsd (by have := kwd.size; omega) Xhrd.out
      rw [hcm] at hby
      have hnt : tag nb = none := by
        cases hT2 : tag nb with
        | none => rfl
        | some T => have := Xh.out.lt nb T hT2; omega
      have hBd := heap_lt hT.box
      have hnbd := heap_lt hqd
      have mk16 : ∀ W : World, W.heap[nb]? = some (.cells #[.bool k0, .bool k1, .bool k2, .bool k3, .bool k4, .bool k5, .bool k6, .bool k7, .bool k8, .bool k9, .bool k10, .bool k11, .bool k12, .bool k13, .bool k14, .bool k15] 85 (0, 0)) → W.cell? ⟨nb, 0, none⟩ = some (.bool k0) ∧ W.cell? ⟨nb, 1, none⟩ = some (.bool k1) ∧ W.cell? ⟨nb, 2, none⟩ = some (.bool k2) ∧ W.cell? ⟨nb, 3, none⟩ = some (.bool k3) ∧ W.cell? ⟨nb, 4, none⟩ = some (.bool k4) ∧ W.cell? ⟨nb, 5, none⟩ = some (.bool k5) ∧ W.cell? ⟨nb, 6, none⟩ = some (.bool k6) ∧ W.cell? ⟨nb, 7, none⟩ = some (.bool k7) ∧ W.cell? ⟨nb, 8, none⟩ = some (.bool k8) ∧ W.cell? ⟨nb, 9, none⟩ = some (.bool k9) ∧ W.cell? ⟨nb, 10, none⟩ = some (.bool k10) ∧ W.cell? ⟨nb, 11, none⟩ = some (.bool k11) ∧ W.cell? ⟨nb, 12, none⟩ = some (.bool k12) ∧ W.cell? ⟨nb, 13, none⟩ = some (.bool k13) ∧ W.cell? ⟨nb, 14, none⟩ = some (.bool k14) ∧ W.cell? ⟨nb, 15, none⟩ = some (.bool k15) := fun W hW => by
        refine ⟨?_, ?_, ?_, ?_, ?_, ?_, ?_, ?_, ?_, ?_, ?_, ?_, ?_, ?_, ?_, ?_⟩ <;> simp [World.cell?, hW]
      have hS0 := mk16 Wd hqd
      clear kw3 hq hT hsd hcm
      have Xkwd := Lib.hid kwd
      have Xhqd := Lib.hid hqd
      have Xhby := Lib.hid hby
      have Xhnt := Lib.hid hnt
      have Xmk16 := Lib.hid mk16
      have XhS0 := Lib.hid hS0
      clear kwd hqd hby hnt mk16 hS0
      subst hWd
      refine region_hoist rfl (fun W => W.cell? ⟨nb, 0, none⟩ = some (.bool k0) ∧ W.cell? ⟨nb, 1, none⟩ = some (.bool k1) ∧ W.cell? ⟨nb, 2, none⟩ = some (.bool k2) ∧ W.cell? ⟨nb, 3, none⟩ = some (.bool k3) ∧ W.cell? ⟨nb, 4, none⟩ = some (.bool k4) ∧ W.cell? ⟨nb, 5, none⟩ = some (.bool k5) ∧ W.cell? ⟨nb, 6, none⟩ = some (.bool k6) ∧ W.cell? ⟨nb, 7, none⟩ = some (.bool k7) ∧ W.cell? ⟨nb, 8, none⟩ = some (.bool k8) ∧ W.cell? ⟨nb, 9, none⟩ = some (.bool k9) ∧ W.cell? ⟨nb, 10, none⟩ = some (.bool k10) ∧ W.cell? ⟨nb, 11, none⟩ = some (.bool k11) ∧ W.cell? ⟨nb, 12, none⟩ = some (.bool k12) ∧ W.cell? ⟨nb, 13, none⟩ = some (.bool k13) ∧ W.cell? ⟨nb, 14, none⟩ = some (.bool k14) ∧ W.cell? ⟨nb, 15, none⟩ = some (.bool k15)) [10, 11] ?_
      refine hoist_take (i := 0) (v := ?_) rfl (by kernel_rfl) (by kernel_rfl) (by kernel_rfl) (by kernel_rfl) (fun _ _ _ h => h) XhS0.out (Or.inl ⟨by rfl, ?_⟩) ?_
      rotate_left
      · intro Wq hWq
        obtain ⟨x0, x1, x2, x3, x4, x5, x6, x7, x8, x9, x10, x11, x12, x13, x14, x15⟩ := hWq
        go_simp
        try with_reducible rfl
      try simp only [Act.put, List.getElem_toArray, List.getElem_cons_zero, List.getElem_cons_succ, List.setIfInBounds_toArray, List.set_cons_zero, List.set_cons_succ]
      refine hoist_take (i := 1) (v := ?_) rfl (by kernel_rfl) (by kernel_rfl) (by kernel_rfl) (by kernel_rfl) (fun _ _ _ h => h) XhS0.out (Or.inl ⟨by rfl, ?_⟩) ?_
      rotate_left
      · intro Wq hWq
        obtain ⟨x0, x1, x2, x3, x4, x5, x6, x7, x8, x9, x10, x11, x12, x13, x14, x15⟩ := hWq
        go_simp
        try with_reducible rfl
      try simp only [Act.put, List.getElem_toArray, List.getElem_cons_zero, List.getElem_cons_succ, List.setIfInBounds_toArray, List.set_cons_zero, List.set_cons_succ]
      refine hoist_take (i := 2) (v := ?_) rfl (by kernel_rfl) (by kernel_rfl) (by kernel_rfl) (by kernel_rfl) (fun _ _ _ h => h) XhS0.out (Or.inl ⟨by rfl, ?_⟩) ?_
      rotate_left
      · intro Wq hWq
        obtain ⟨x0, x1, x2, x3, x4, x5, x6, x7, x8, x9, x10, x11, x12, x13, x14, x15⟩ := hWq
        go_simp
        try with_reducible rfl
      try simp only [Act.put, List.getElem_toArray, List.getElem_cons_zero, List.getElem_cons_succ, List.setIfInBounds_toArray, List.set_cons_zero, List.set_cons_succ]
      refine hoist_take (i := 7) (v := ?_) rfl (by kernel_rfl) (by kernel_rfl) (by kernel_rfl) (by kernel_rfl) (fun _ _ _ h => h) XhS0.out (Or.inl ⟨by rfl, ?_⟩) ?_
      rotate_left
      · intro Wq hWq
        obtain ⟨x0, x1, x2, x3, x4, x5, x6, x7, x8, x9, x10, x11, x12, x13, x14, x15⟩ := hWq
        go_simp
        try with_reducible rfl
      try simp only [Act.put, List.getElem_toArray, List.getElem_cons_zero, List.getElem_cons_succ, List.setIfInBounds_toArray, List.set_cons_zero, List.set_cons_succ]
      refine hoist_one (i := 3) rfl (by kernel_rfl) (fun K hK => ?_)
      have XhK0 := Lib.hid hK
      clear hK
      go_wp2_with fail
      refine Xhby.out.mono ?_
      rintro e W4 ⟨L, tag4, lm4, rfl, k4, hG4, hin4, hle4, hnew4, hsub⟩
      obtain ⟨l, vl, M, mm, hLA⟩ := hG4.looks _ L hin4
      have hlc : l = cols := rows_same hLA.row Xhrd.out hn16 hLA.mask
      subst hlc
      have hq4 := k4.heap Xhqd.out Xhnt.out
      have e1 : W4.cell? ⟨L, 1, none⟩ = some (.map (some M)) := by have := cells_of_block hLA.box 1 _ rfl; simpa using this
      have hL4 := heap_lt hLA.box
      have kf4 : Keep (fun b => tag b = none ∧ b < w.heap.size) w W4 := (Xkwd.out.mono fun _ _ h => h.2).trans (k4.mono fun _ _ h => h.1)
      have hsk4 := ints_free Xhsk.out Xhfk.out kf4 (fun b hb hbm => ⟨hb, by omega⟩)
      have hkl16 : key.length ≤ 16 := by have := rowD_len Xhrd.out; have := Xhlen.out; omega
      have hS0' := Xmk16.out W4 hq4
      have hS1 := And.intro hS0' e1
      have hm4 : m ≤ W4.heap.size := by have := kf4.size; omega
      clear hS0' e1
      have Xk4 := Lib.hid k4
      have XhG4 := Lib.hid hG4
      have Xhin4 := Lib.hid hin4
      have Xhle4 := Lib.hid hle4
      have Xhnew4 := Lib.hid hnew4
      have Xhsub := Lib.hid hsub
      have XhLA := Lib.hid hLA
      have Xhq4 := Lib.hid hq4
      have Xkf4 := Lib.hid kf4
      have Xhsk4 := Lib.hid hsk4
      have XhS1 := Lib.hid hS1
      clear k4 hG4 hin4 hle4 hnew4 hsub hLA hq4 kf4 hsk4 hS1
      go_wp2_with fail
      refine XhK0.out _ _ (fun _ => XhS1.out.1) ?_
      refine wpAnyL_to (S' := fun W => (W.cell? ⟨nb, 0, none⟩ = some (.bool k0) ∧ W.cell? ⟨nb, 1, none⟩ = some (.bool k1) ∧ W.cell? ⟨nb, 2, none⟩ = some (.bool k2) ∧ W.cell? ⟨nb, 3, none⟩ = some (.bool k3) ∧ W.cell? ⟨nb, 4, none⟩ = some (.bool k4) ∧ W.cell? ⟨nb, 5, none⟩ = some (.bool k5) ∧ W.cell? ⟨nb, 6, none⟩ = some (.bool k6) ∧ W.cell? ⟨nb, 7, none⟩ = some (.bool k7) ∧ W.cell? ⟨nb, 8, none⟩ = some (.bool k8) ∧ W.cell? ⟨nb, 9, none⟩ = some (.bool k9) ∧ W.cell? ⟨nb, 10, none⟩ = some (.bool k10) ∧ W.cell? ⟨nb, 11, none⟩ = some (.bool k11) ∧ W.cell? ⟨nb, 12, none⟩ = some (.bool k12) ∧ W.cell? ⟨nb, 13, none⟩ = some (.bool k13) ∧ W.cell? ⟨nb, 14, none⟩ = some (.bool k14) ∧ W.cell? ⟨nb, 15, none⟩ = some (.bool k15)) ∧ W.cell? ⟨L, 1, none⟩ = some (.map (some M))) (fun _ h => h.1) _ _ _ _ ?_
      refine hoist_take (i := 4) (v := ?_) rfl (by kernel_rfl) (by kernel_rfl) (by kernel_rfl) (by kernel_rfl) (fun _ _ _ h => h) XhS1.out (Or.inl ⟨by rfl, ?_⟩) ?_
      rotate_left
      · intro Wq hWq
        obtain ⟨⟨x0, x1, x2, x3, x4, x5, x6, x7, x8, x9, x10, x11, x12, x13, x14, x15⟩, y0⟩ := hWq
        go_simp
        try with_reducible rfl
      try simp only [Act.put, List.getElem_toArray, List.getElem_cons_zero, List.getElem_cons_succ, List.setIfInBounds_toArray, List.set_cons_zero, List.set_cons_succ]
      refine hoist_take (i := 5) (v := ?_) rfl (by kernel_rfl) (by kernel_rfl) (by kernel_rfl) (by kernel_rfl) (fun _ _ _ h => h) XhS1.out (Or.inl ⟨by rfl, ?_⟩) ?_
      rotate_left
      · intro Wq hWq
        obtain ⟨⟨x0, x1, x2, x3, x4, x5, x6, x7, x8, x9, x10, x11, x12, x13, x14, x15⟩, y0⟩ := hWq
        go_simp
        try with_reducible rfl
      try simp only [Act.put, List.getElem_toArray, List.getElem_cons_zero, List.getElem_cons_succ, List.setIfInBounds_toArray, List.set_cons_zero, List.set_cons_succ]
      refine hoist_take (i := 6) (v := ?_) rfl (by kernel_rfl) (by kernel_rfl) (by kernel_rfl) (by kernel_rfl) (fun _ _ _ h => h) XhS1.out (Or.inl ⟨by rfl, ?_⟩) ?_
      rotate_left
      · intro Wq hWq
        obtain ⟨⟨x0, x1, x2, x3, x4, x5, x6, x7, x8, x9, x10, x11, x12, x13, x14, x15⟩, y0⟩ := hWq
        go_simp
        try with_reducible rfl
      try simp only [Act.put, List.getElem_toArray, List.getElem_cons_zero, List.getElem_cons_succ, List.setIfInBounds_toArray, List.set_cons_zero, List.set_cons_succ]
      refine hoist_one (i := 8) rfl (by kernel_rfl) (fun K hK => ?_)
      have XhK1 := Lib.hid hK
      clear hK
      go_wp2_with fail
      refine (whole_any m _ key W4 Xhsk4.out hm4 hkl16).mono ?_
      rintro e W5 ⟨rfl, k5⟩
      have hG5 := XhG4.out.keep k5 (fun b T hb hlt => hlt)
      have hLA5 := XhLA.out.keep k5 (tag' := tag4) (fun b hb => by
        cases hT2 : tag4 b with
        | none => rw [hT2] at hb; cases hb
        | some T => exact XhG4.out.lt b T hT2) (fun _ _ => rfl) (fun _ _ => rfl)
      have hq5 := k5.heap Xhq4.out (heap_lt Xhq4.out)
      have e5 : W5.cell? ⟨L, 1, none⟩ = some (.map (some M)) := by have := cells_of_block hLA5.box 1 _ rfl; simpa using this
      have hS5 := And.intro (Xmk16.out W5 hq5) e5
      have kf5 : Keep (fun b => tag b = none) w W5 := (Xkf4.out.trans (k5.mono fun b hb h => by have := Xkf4.out.size; omega)).mono (fun b hb h => ⟨h, hb⟩)
      have hkk := key_ok (padK_len hkl16) (okT_pad Xhok.out)
      have hlk := run_lookK (P := Try.prog) Try.underlying90 arrKey.law keyV_inj key_zero hLA5.map (padK key) hkk false
      have hnew5 : TagNew tag tag4 w := TagNew.trans (TagNew.refl _ _) Xhnew4.out Xkwd.out.size
      clear e5 hq5 k5
      have XhS5 := Lib.hid hS5
      have Xkf5 := Lib.hid kf5
      have XhG5 := Lib.hid hG5
      have XhLA5 := Lib.hid hLA5
      have Xhnew5 := Lib.hid hnew5
      clear hS5 kf5 hG5 hLA5 hnew5
      go_wp2_with fail
      refine XhK1.out _ _ (fun _ => XhS5.out) ?_
      obtain ⟨vr, hvr, hF⟩ : ∃ vr, (match lookK mm (padK key) with | some v => v | none => Value.slice none 0 0) = vr ∧ FoundV tag4 W5 ts l key vr := by
        cases hkk2 : lookK mm (padK key) with
        | some v =>
          refine ⟨v, rfl, XhLA5.out.ents (padK key) v ?_⟩
          unfold lookK at hkk2
          cases hf : mm.find? (fun p => decide (p.1 = padK key)) with
          | none => rw [hf] at hkk2; cases hkk2
          | some p =>
            rw [hf] at hkk2
            have h1 := List.find?_some hf
            have h2 := List.mem_of_find?_eq_some hf
            simp only [decide_eq_true_eq] at h1
            cases hkk2
            rw [← h1]
            exact h2
        | none =>
          have hno : padK key ∉ mm.map (·.1) := fun hm2 => by
            obtain ⟨p, hp, he⟩ := List.mem_map.1 hm2
            have := List.find?_eq_none.1 (Option.map_eq_none_iff.1 hkk2) p hp
            simp [he] at this
          refine ⟨_, rfl, ?_⟩
          unfold FoundV
          rw [idx_nil XhLA5.out hno]
          exact ⟨World.ownsRow_nil _ _ _ _, fun b hb => by simp [Value.ownBlock] at hb⟩
      have hlk' : (Instr.lookup 90 (.map (some M)) (keyV (padK key)) false).run Try.prog W5 = .ok vr W5 := by
        rw [hlk, ← hvr]
        cases lookK mm (padK key) <;> rfl
      clear hlk hvr
      have XhF := Lib.hid hF
      clear hF
      refine hoist_one (i := 9) rfl (by kernel_rfl) (fun K hK => ?_)
      have XhK2 := Lib.hid hK
      clear hK
      go_wp2_with fail
      refine XhK2.out _ _ (fun _ => XhS5.out) ?_
      refine hoist_one (i := 10) rfl (by kernel_rfl) (fun K hK => ?_)
      have XhK3 := Lib.hid hK
      clear hK
      go_wp2_with fail
      refine XhK3.out _ _ (fun h => by simp at h) ?_
      refine hoist_one (i := 11) rfl (by kernel_rfl) (fun K hK => ?_)
      have XhK4 := Lib.hid hK
      clear hK
      go_wp2_with fail
      refine XhK4.out _ _ (fun h => by simp at h) ?_
      refine hoist_done (by kernel_rfl) ?_
      go_wp2_with fail
      go_ret2
      exact ⟨vr, tag4, lm4, by rw [Xhrd.out, Xhd.out]; rfl, Xkf5.out, XhG5.out, Xhle4.out, Xhnew5.out, Xhsub.out, fun _ _ => ⟨XhF.out, L, Xhin4.out⟩, fun h => by rw [Xhrd.out, Xhd.out] at h; cases h⟩
  · have hne : ((key.length : Int) != cols.length) = true := by simp; omega
    have hd : decide (key.length = cols.length) = false := decide_eq_false hlen
    have Xhlen := Lib.hid hlen
    have Xhd := Lib.hid hd
    clear hlen hd
    go_wp2_with fail
    go_ret2
    exact ⟨.slice none 0 0, tag, lm, by rw [Xhd.out, Bool.and_false]; rfl, Keep.refl _ _, Xh.out, TagLe.refl _, TagNew.refl _ _, fun _ h => h, fun _ h => absurd h Xhlen.out, fun _ => rfl⟩
end Go.Proofs
