/- Layer 4, the program's relation: Distinct, At; the document's Cut. -/
import Derived.Test.YtbaemcmagkmjiaaProg
import Derived.Test.YtbaemcmagkmjiaaRelVToRelW
import Derived.Test.YtbaemcmagkmjiaaHoistRToDistL
namespace Go.Proofs
open Go.RowKit Go.Ink
set_option linter.unusedVariables false
set_option linter.unusedSimpArgs false
attribute [local go_sem] Oper.semAt_some

/-- how many unlike keys there are in some columns -/
def distD (n : Nat) (ts : List (List Int)) (cols : List Int) : Int × Int := if rowD n cols = true then (((dd (ts.map fun t => cutL t cols)).length : Int), 0) else (0, 2)

theorem look_len {tag : Tags} {w : World} {n : Nat} {ts : List (List Int)} {c : List Bool} {L M : Nat} {l : List Int} {vl : Value} {m : List (List Int × Value)} (h : LookAt tag w n ts c L l vl M m) : m.length = (dd (ts.map fun t => cutL t l)).length := by
  obtain ⟨es, cl, h1, h2, h3, _⟩ := h.map
  have hinj : ∀ a ∈ ts.map (fun t => cutL t l), ∀ b ∈ ts.map (fun t => cutL t l), padK a = padK b → a = b := fun a ha b hb e => by
    obtain ⟨s, _, rfl⟩ := List.mem_map.1 ha
    obtain ⟨t, _, rfl⟩ := List.mem_map.1 hb
    exact pad_inj e (by rw [cutL_len, cutL_len])
  have hlen : (m.map (·.1)).length = ((dd (ts.map fun t => cutL t l)).map padK).length := by
    have hnd : ((dd (ts.map fun t => cutL t l)).map padK).Nodup := by
      have hd := nodup_dd (ts.map fun t => cutL t l)
      rw [List.Nodup, List.pairwise_map]
      refine List.Pairwise.imp_of_mem (fun {a b} ha hb hab e => hab (hinj a ((mem_dd _ _).1 ha) b ((mem_dd _ _).1 hb) e)) hd
    refine Nat.le_antisymm (nodup_le h3 fun k hk => ?_) (nodup_le hnd fun k hk => ?_)
    · obtain ⟨t, ht, rfl⟩ := (h.keys k).1 hk
      exact List.mem_map.2 ⟨cutL t l, (mem_dd _ _).2 (List.mem_map.2 ⟨t, ht, rfl⟩), rfl⟩
    · obtain ⟨a, ha, rfl⟩ := List.mem_map.1 hk
      obtain ⟨t, ht, rfl⟩ := List.mem_map.1 ((mem_dd _ _).1 ha)
      exact (h.keys _).2 ⟨t, ht, rfl⟩
  simpa using hlen

set_option maxRecDepth 100000 in
set_option maxHeartbeats 4000000 in
theorem relDistinct_any {B n P KM : Nat} {s0 : RelS} {w : World} (hinv : RelInv B n P KM s0 w) (m : Nat) (vc : Value) (cols : List Int) (hs : IntsIn m w vc cols) (hm : m ≤ w.heap.size) :
    Calls Try.prog 20 #[.pointer (some ⟨B, 0, none⟩), vc] w fun e w' => e = .returned (.tuple #[.int .i64 (distD n s0.ts cols).1, .int .i64 (distD n s0.ts cols).2]) ∧
      ∃ s', RelInv B n P KM s' w' ∧ RelSame s0 w s' w' := by
  obtain ⟨tag, ts, vD, lm⟩ := s0
  obtain ⟨a, cc, rfl, hlt, hct, het⟩ := id hs
  have h := hinv.own
  have hl : ts.length ≤ 67108864 := hinv.few
  simp only at h ⊢
  have hB := heap_lt h.box
  have hn16 := h.n16
  have Xh := Lib.hid h
  have Xhs := Lib.hid hs
  have Xhet := Lib.hid het
  have Xhinv := Lib.hid hinv
  clear h hs het hinv
  go_enter Try.func20, Try.ntmps20
  go_wp2_with fail
  refine (made_any Xh.out.box).mono ?_
  rintro e w1 ⟨rfl, hw1⟩
  have hw1 := hw1.symm
  subst hw1
  go_wp2_with fail
  refine (row_any Xh.out.box hn16 m _ cols Xhs.out hm).mono ?_
  rintro e W1 ⟨rfl, kw1⟩
  obtain ⟨k0, k1, k2, k3, k4, k5, k6, k7, k8, k9, k10, k11, k12, k13, k14, k15, hpad⟩ : ∃ k0 k1 k2 k3 k4 k5 k6 k7 k8 k9 k10 k11 k12 k13 k14 k15, rowC n cols = [k0, k1, k2, k3, k4, k5, k6, k7, k8, k9, k10, k11, k12, k13, k14, k15] := by
    have hlen : (rowC n cols).length = 16 := by unfold rowC; split <;> exact mask_len _
    match h : rowC n cols, hlen with
    | [k0, k1, k2, k3, k4, k5, k6, k7, k8, k9, k10, k11, k12, k13, k14, k15], _ => exact ⟨k0, k1, k2, k3, k4, k5, k6, k7, k8, k9, k10, k11, k12, k13, k14, k15, rfl⟩
  have hcv : colV (rowC n cols) = .agg #[.bool k0, .bool k1, .bool k2, .bool k3, .bool k4, .bool k5, .bool k6, .bool k7, .bool k8, .bool k9, .bool k10, .bool k11, .bool k12, .bool k13, .bool k14, .bool k15] := by rw [hpad]; rfl
  rw [hcv]
  obtain ⟨W0, hW0⟩ : ∃ W0, W1.alloc (.cells #[.bool false, .bool false, .bool false, .bool false, .bool false, .bool false, .bool false, .bool false, .bool false, .bool false, .bool false, .bool false, .bool false, .bool false, .bool false, .bool false] 85) = W0 := ⟨_, rfl⟩
  obtain ⟨nb, hnb⟩ : ∃ nb, W1.heap.size = nb := ⟨_, rfl⟩
  have n1 : W0.heap[nb]? = some (.cells #[.bool false, .bool false, .bool false, .bool false, .bool false, .bool false, .bool false, .bool false, .bool false, .bool false, .bool false, .bool false, .bool false, .bool false, .bool false, .bool false] 85 (0, 0)) := by rw [← hW0, ← hnb]; exact new_block _ _
  have kw0 : Keep (fun b => b < w.heap.size) w W0 := by rw [← hW0]; exact kw1.trans (Keep.alloc _ _ _)
  have s0 : nb < W0.heap.size := heap_lt n1
  have hwn : w.heap.size ≤ nb := by rw [← hnb]; exact kw1.size
  have z0 := cells_of_block n1 0 _ rfl
  have f0 := box_free n1 0
  have z1 := cells_of_block n1 1 _ rfl
  have f1 := box_free n1 1
  have z2 := cells_of_block n1 2 _ rfl
  have f2 := box_free n1 2
  have z3 := cells_of_block n1 3 _ rfl
  have f3 := box_free n1 3
  have z4 := cells_of_block n1 4 _ rfl
  have f4 := box_free n1 4
  have z5 := cells_of_block n1 5 _ rfl
  have f5 := box_free n1 5
  have z6 := cells_of_block n1 6 _ rfl
  have f6 := box_free n1 6
  have z7 := cells_of_block n1 7 _ rfl
  have f7 := box_free n1 7
  have z8 := cells_of_block n1 8 _ rfl
  have f8 := box_free n1 8
  have z9 := cells_of_block n1 9 _ rfl
  have f9 := box_free n1 9
  have z10 := cells_of_block n1 10 _ rfl
  have f10 := box_free n1 10
  have z11 := cells_of_block n1 11 _ rfl
  have f11 := box_free n1 11
  have z12 := cells_of_block n1 12 _ rfl
  have f12 := box_free n1 12
  have z13 := cells_of_block n1 13 _ rfl
  have f13 := box_free n1 13
  have z14 := cells_of_block n1 14 _ rfl
  have f14 := box_free n1 14
  have z15 := cells_of_block n1 15 _ rfl
  have f15 := box_free n1 15
  simp only [Nat.zero_add] at z0 z1 z2 z3 z4 z5 z6 z7 z8 z9 z10 z11 z12 z13 z14 z15
  obtain ⟨rd, hrd⟩ : ∃ rd, rowD n cols = rd := ⟨_, rfl⟩
  rw [hrd]
  clear kw1 hpad
  have Xn1 := Lib.hid n1
  have Xkw0 := Lib.hid kw0
  have Xhcv := Lib.hid hcv
  have Xhrd := Lib.hid hrd
  clear n1 kw0 hcv hrd
  cases rd with
  | false =>
    go_wp2_with fail
    refine post_abs (fun W => Keep (fun k => k < w.heap.size) w W) (w := chain nb [.bool k0, .bool k1, .bool k2, .bool k3, .bool k4, .bool k5, .bool k6, .bool k7, .bool k8, .bool k9, .bool k10, .bool k11, .bool k12, .bool k13, .bool k14, .bool k15] 0 W0) (Xkw0.out.trans ((chain_keep _ _ _ _).mono (fun b _ h => by omega))) ?_
    clear z0 z1 z2 z3 z4 z5 z6 z7 z8 z9 z10 z11 z12 z13 z14 z15 f0 f1 f2 f3 f4 f5 f6 f7 f8 f9 f10 f11 f12 f13 f14 f15 Xn1 Xkw0 s0 hnb hW0
    rintro W3 kw3
    have hT := Xh.out.keep kw3 (fun b T hb hlt => hlt)
    have Xkw3 := Lib.hid kw3
    have XhT := Lib.hid hT
    clear kw3 hT
    go_ret2
    refine ⟨by unfold distD; rw [Xhrd.out]; rfl, ⟨tag, ts, vD, lm⟩, ⟨XhT.out, hl⟩, Xkw3.out.mono (fun b hb h => hb), rfl, TagLe.refl _, TagNew.refl _ _, fun _ h => h⟩
  | true =>
    go_wp2_with fail
    obtain ⟨Wd, hWd⟩ : ∃ Wd, chain nb [.bool k0, .bool k1, .bool k2, .bool k3, .bool k4, .bool k5, .bool k6, .bool k7, .bool k8, .bool k9, .bool k10, .bool k11, .bool k12, .bool k13, .bool k14, .bool k15] 0 W0 = Wd := ⟨_, rfl⟩
    have kwd : Keep (fun k => k < w.heap.size) w Wd := by rw [← hWd]; exact Xkw0.out.trans ((chain_keep _ _ _ _).mono (fun b _ h => by omega))
    clear z0 z1 z2 z3 z4 z5 z6 z7 z8 z9 z10 z11 z12 z13 z14 z15 f0 f1 f2 f3 f4 f5 f6 f7 f8 f9 f10 f11 f12 f13 f14 f15 Xn1 Xkw0 s0 hnb hW0
    have hcm : colV (maskOf cols) = .agg #[.bool k0, .bool k1, .bool k2, .bool k3, .bool k4, .bool k5, .bool k6, .bool k7, .bool k8, .bool k9, .bool k10, .bool k11, .bool k12, .bool k13, .bool k14, .bool k15] := by
      have := Xhcv.out
      unfold rowC at this
      rw [Xhrd.out, if_pos rfl] at this
      exact this
    have hT := Xh.out.keep kwd (fun b T hb hlt => hlt)
    have hsd := ints_stay Xhs.out (m := m) (kwd.mono fun _ _ h => by omega) (Nat.le_refl _)
    have hby := by_any hT (by omega) m _ cols hsd (by have := kwd.size; omega) Xhrd.out
    rw [hcm] at hby
    have hBd := heap_lt hT.box
    clear hT hsd hcm
    have Xkwd := Lib.hid kwd
    have Xhby := Lib.hid hby
    clear kwd hby
    subst hWd
    refine Xhby.out.mono ?_
    rintro e W4 ⟨L, tag4, lm4, rfl, k4, hG4, hin4, hle4, hnew4, hsub⟩
    obtain ⟨l, vl, M, mm, hLA⟩ := hG4.looks _ L hin4
    have hlc : l = cols := rows_same hLA.row Xhrd.out hn16 hLA.mask
    subst hlc
    have e1 : W4.cell? ⟨L, 1, none⟩ = some (.map (some M)) := by have := cells_of_block hLA.box 1 _ rfl; simpa using this
    have hL4 := heap_lt hLA.box
    have kf4 : Keep (fun b => tag b = none ∧ b < w.heap.size) w W4 := (Xkwd.out.mono fun _ _ h => h.2).trans (k4.mono fun _ _ h => h.1)
    have hnew5 : TagNew tag tag4 w := TagNew.trans (TagNew.refl _ _) hnew4 Xkwd.out.size
    have hlen := look_len hLA
    obtain ⟨es, clk, hes, hes2, _⟩ := hLA.map
    have hesz : es.size = (dd (ts.map fun t => cutL t l)).length := by
      have := congrArg List.length hes2
      simp only [List.length_map, Array.length_toList] at this
      omega
    have hlenr := run_len_map (P := Try.prog) W4 90 3 M es clk (by kernel_rfl) hes
    rw [hesz] at hlenr
    have hMlt := heap_lt hes
    clear hes hes2 hesz hlen
    have Xk4 := Lib.hid k4
    have XhG4 := Lib.hid hG4
    have Xhin4 := Lib.hid hin4
    have Xhle4 := Lib.hid hle4
    have Xhnew4 := Lib.hid hnew4
    have Xhsub := Lib.hid hsub
    have XhLA := Lib.hid hLA
    have Xkf4 := Lib.hid kf4
    have Xhnew5 := Lib.hid hnew5
    clear k4 hG4 hin4 hle4 hnew4 hsub hLA kf4 hnew5
    go_wp2_with fail
    go_ret2
    exact ⟨by unfold distD; rw [Xhrd.out]; rfl, ⟨tag4, ts, vD, lm4⟩, ⟨XhG4.out, hl⟩, Xkf4.out.mono (fun b _ h => h), rfl, Xhle4.out, Xhnew5.out, Xhsub.out⟩

set_option maxRecDepth 100000 in
theorem relAt_bad {B n P KM : Nat} {s : RelS} {w : World} (hinv : RelInv B n P KM s w) (i : Int) (hi : i < 0 ∨ (s.ts.length : Int) ≤ i) :
    Calls Try.prog 21 #[.pointer (some ⟨B, 0, none⟩), .int .i64 i] w fun e w' => e = .returned (.tuple #[.slice none 0 0, .bool false]) ∧ Keep (fun _ => True) w w' := by
  have hbox := hinv.own.box
  have hfew := hinv.few
  have hB := heap_lt hbox
  have Xhinv := Lib.hid hinv
  have Xhbox := Lib.hid hbox
  clear hinv hbox
  go_enter Try.func21, Try.ntmps21
  rcases hi with h0 | h0
  · go_wp2_with fail
    go_ret2
    exact ⟨rfl, Keep.refl _ _⟩
  · have h1 : ¬ i < 0 := by omega
    have hd1 : decide ((s.ts.length : Int) ≤ i) = true := decide_eq_true h0
    go_wp2_with fail
    refine (relLen_any Xhbox.out).mono ?_
    rintro e w1 ⟨rfl, hw1⟩
    have hw1 := hw1.symm
    subst hw1
    go_wp2_with fail
    go_ret2
    exact ⟨rfl, Keep.refl _ _⟩

set_option maxRecDepth 100000 in
theorem relAt_any {B n P KM : Nat} {s : RelS} {w : World} (hinv : RelInv B n P KM s w) (i : Nat) (t : List Int) (hi : s.ts[i]? = some t) :
    Calls Try.prog 21 #[.pointer (some ⟨B, 0, none⟩), .int .i64 (i : Int)] w fun e w' => ∃ v, e = .returned (.tuple #[v, .bool true]) ∧ w'.ownsRow w.heap.size 3 1 v t.length (t.map (.int .i64)) ∧ t.length ≤ 1073741824 ∧ Keep (fun _ => True) w w' := by
  have hfew := hinv.few
  have hil := (List.getElem?_eq_some_iff.1 hi).1
  have hB := heap_lt hinv.own.box
  have hi1 : ¬ (s.ts.length : Int) ≤ (i : Int) := by omega
  have hd1 : decide (s.ts.length ≤ i) = false := decide_eq_false (by omega)
  have hi0 : (0 : Int) ≤ i := by omega
  have hbox := hinv.own.box
  have Xhinv := Lib.hid hinv
  have Xhi := Lib.hid hi
  have Xhbox := Lib.hid hbox
  clear hinv hi hbox
  go_enter Try.func21, Try.ntmps21
  go_wp2_with fail
  refine (relLen_any Xhbox.out).mono ?_
  rintro e w1 ⟨rfl, hw1⟩
  have hw1 := hw1.symm
  subst hw1
  obtain ⟨W1, hW1⟩ : ∃ W1, w.alloc (.cells #[] 3) = W1 := ⟨_, rfl⟩
  have k1 : Keep (fun _ => True) w W1 := by rw [← hW1]; exact Keep.alloc _ _ _
  have ho1 : W1.ownsRow w.heap.size 3 1 (.slice (some ⟨w.heap.size, 0, none⟩) 0 0) 0 [] := by rw [← hW1]; exact World.ownsRow_made w #[] 0 (Nat.le_refl _) (by simp [maxLen]) rfl
  have hinv1 := Xhinv.out.keep (k1.mono fun _ _ _ => trivial)
  have htup := tuple_any hinv1.own (by omega) _ t Xhi.out
  have Xk1 := Lib.hid k1
  have Xho1 := Lib.hid ho1
  have Xhinv1 := Lib.hid hinv1
  have Xhtup := Lib.hid htup
  clear k1 ho1 hinv1 htup
  go_wp2_with fail
  refine Xhtup.out.mono ?_
  rintro e W2 ⟨vt, rfl, k2, z2, hvt, htl⟩
  have ho2 := own_kept Xho1.out k2 (fun _ _ => trivial)
  have hvt2 := ints_stay hvt (m := W1.heap.size) (k2.mono fun _ _ _ => trivial) (Nat.le_refl _)
  obtain ⟨at', ct', rfl, hlt', hct', het'⟩ := id hvt2
  have hcl := slice_cells (sz := 1) ic (fun _ => rfl) (by omega) (E := IntE) (fun b o x h j u hj => by
    have hj0 : j = 0 := by have := (List.getElem?_eq_some_iff.1 hj).1; simp [ic] at this; exact this
    subst hj0
    simp [ic] at hj
    subst hj
    exact h) hvt2 rfl
  have hz12 : w.heap.size ≤ W2.heap.size := by have := Xk1.out.size; omega
  obtain ⟨va, W3, hr3, ho3, hg3, kw3⟩ := appA (P := Try.prog) el_int 23 ho2 at' t.length ct' (t.flatMap ic) (flatMap_len _ 1 (fun _ => rfl) _) hcl.1 hcl.2 (flat_one _ (by simp [ic, Value.oneCell']) _) (by omega) hz12
  rw [ic_map, List.nil_append, Nat.zero_add] at ho3
  have k03 : Keep (fun _ => True) w W3 := ((Xk1.out.mono fun _ _ _ => trivial).trans ((k2.mono fun _ _ _ => trivial).trans (kw3.mono (C' := fun b => b < w.heap.size) fun b _ h e => by have := (World.ownsRow.lt ho3 b e).1; omega))).mono (fun b hb _ => hb)
  clear hvt hvt2 het' hcl ho2 hg3 kw3 htl hW1
  have Xk2 := Lib.hid k2
  have Xho3 := Lib.hid ho3
  have Xk03 := Lib.hid k03
  have Xhr3 := Lib.hid hr3
  clear k2 ho3 k03 hr3
  go_wp2_with (at_builtin; refine go_app rfl _ _ _ rfl rfl rfl Xhr3.out ?_)
  go_ret2
  exact ⟨_, rfl, Xho3.out, hlt', Xk03.out⟩

set_option maxRecDepth 100000 in
theorem refCut_any (m : Nat) (v vc : Value) (t cols : List Int) (w : World) (hs : IntsIn m w v t) (hc : IntsIn m w vc cols) (hm : m ≤ w.heap.size) (hin : ∀ c ∈ cols, 0 ≤ c ∧ c < t.length) :
    Calls Try.prog 22 #[v, vc] w fun e w' => ∃ v', e = .returned v' ∧ Keep (fun k => k < w.heap.size) w w' ∧ w'.ownsRow w.heap.size 3 1 v' (cutL t cols).length ((cutL t cols).map (.int .i64)) := by
  obtain ⟨a, c, rfl, hl, hcp, he⟩ := id hs
  obtain ⟨ac, cc, rfl, hlc, hcc, hec⟩ := id hc
  have Xhs := Lib.hid hs
  have Xhc := Lib.hid hc
  have Xhe := Lib.hid he
  have Xhec := Lib.hid hec
  have Xhin := Lib.hid hin
  clear hs hc he hec hin
  go_enter Try.func22, Try.ntmps22
  go_wp2_with fail
  go_loopw [5, 6] (fun v i wr => ∃ k : Nat, k ≤ cols.length ∧ i = .int .i64 k ∧ Keep (fun k => k < w.heap.size) w wr ∧ wr.ownsRow w.heap.size 3 1 v (cutL t (cols.take k)).length ((cutL t (cols.take k)).map (.int .i64))) (fun _ i _ => cols.length - (intOf i).toNat)
  case atStart => exact ⟨0, by omega, rfl, Keep.refl _ _, World.ownsRow_nil _ _ _ _⟩
  case round =>
    obtain ⟨k, hk, rfl, hK, hO⟩ := hrel
    have hszk := hK.size
    by_cases hlt : k < cols.length
    · obtain ⟨x, hx⟩ : ∃ x, cols[k]? = some x := ⟨_, List.getElem?_eq_getElem hlt⟩
      obtain ⟨h0, h1⟩ := Xhin.out x (List.mem_of_getElem? hx)
      obtain ⟨j, rfl⟩ := Int.eq_ofNat_of_zero_le h0
      obtain ⟨y, hy⟩ : ∃ y, t[j]? = some y := ⟨_, List.getElem?_eq_getElem (by omega)⟩
      obtain ⟨b, o, rfl, hb, hxa⟩ := Xhec.out k _ hx
      obtain ⟨b2, o2, rfl, hb2, hya⟩ := Xhe.out j _ hy
      have hxa := hK.cell hxa (by simp only; omega)
      have hya := hK.cell hya (by simp only; omega)
      simp only [Nat.mul_one] at hxa hya
      have hb1 : b < wr.heap.size := by omega
      have hb3 : b2 < wr.heap.size := by omega
      have hlt1 : (k : Int) < cols.length := by omega
      have hk0 : (0 : Int) ≤ k := by omega
      have hlen : (cutL t (cols.take k)).length ≤ 1073741824 := by rw [cutL_len, List.length_take]; omega
      have hnx : cutL t (cols.take (k + 1)) = cutL t (cols.take k) ++ [y] := by
        rw [List.take_add_one, hx]
        unfold cutL
        simp [List.getD, hy]
      obtain ⟨v', W4, hr4, ho4, hk4, g4, cap4, hv4, _, _⟩ := app1 el_int 23 hO [.int .i64 y] rfl (by simp [Value.oneCell']) (by omega) (by omega)
      subst hv4
      have kW := hK.trans (hk4.mono fun b _ h => own_not hO h)
      have ho5 : W4.ownsRow w.heap.size 3 1 (.slice (some ⟨g4, 0, none⟩) ((cutL t (cols.take k)).length + 1) cap4) (cutL t (cols.take (k + 1))).length ((cutL t (cols.take (k + 1))).map (.int .i64)) := by
        rw [hnx]
        simpa using ho4
      clear ho4 hk4 hx hy hlt
      have XhK := Lib.hid hK
      have XhO := Lib.hid hO
      have Xhr4 := Lib.hid hr4
      have XkW := Lib.hid kW
      have Xho5 := Lib.hid ho5
      have Xhnx := Lib.hid hnx
      clear hK hO hr4 kW ho5 hnx
      go_wp2_with (at_builtin; refine go_app rfl _ _ _ rfl rfl rfl Xhr4.out ?_)
      go_roundw
      case rel => exact ⟨k + 1, by omega, by go_num, XkW.out, Xho5.out⟩
      case measure => simp [intOf]; omega
    · obtain rfl : k = cols.length := by omega
      rw [List.take_length] at hO
      have XhK := Lib.hid hK
      have XhO := Lib.hid hO
      clear hK hO
      go_wp2_with fail
      go_ret
      exact ⟨_, rfl, XhK.out, XhO.out⟩
end Go.Proofs
