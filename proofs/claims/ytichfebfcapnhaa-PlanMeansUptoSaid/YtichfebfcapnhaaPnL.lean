/- Layer 16 (plan): the document's Vars, Terms, all, Ready. -/
import Derived.Test.YtichfebfcapnhaaProg
import Derived.Test.YtichfebfcapnhaaPnK
namespace Go.Proofs
open Go.RowKit Go.Ink
set_option linter.unusedVariables false
set_option linter.unusedSimpArgs false
attribute [local go_sem] Oper.semAt_some

/-- the variables of terms, each once -/
def varsL (ts : List TermD) : List ByteArray := onceL ((ts.filter (·.var)).map (·.text))
theorem varsL_snoc (ts : List TermD) {k : Nat} {t : TermD} (h : ts[k]? = some t) : varsL (ts.take (k + 1)) = if t.var then (if t.text ∈ varsL (ts.take k) then varsL (ts.take k) else varsL (ts.take k) ++ [t.text]) else varsL (ts.take k) := by
  unfold varsL
  rw [List.take_add_one, h, List.filter_append, List.map_append]
  simp only [Option.toList_some, List.filter_cons, List.filter_nil]
  cases t.var
  · simp
  · simp [onceL_snoc]
theorem varsL_len (ts : List TermD) : (varsL ts).length ≤ ts.length := by
  unfold varsL
  refine Nat.le_trans (onceL_len _) ?_
  rw [List.length_map]
  exact List.length_filter_le _ _
theorem ready_vars (K : List ByteArray) (ts : List TermD) : (varsL ts).all (fun x => decide (x ∈ K)) = !ts.any (openD K) := by
  rw [Bool.eq_iff_iff, List.all_eq_true, Bool.not_eq_true', List.any_eq_false]
  unfold varsL openD
  simp only [onceL_mem, List.mem_map, List.mem_filter, decide_eq_true_eq, Bool.and_eq_true, Bool.not_eq_true', decide_eq_false_iff_not, not_and, Classical.not_not]
  constructor
  · intro h t ht hv; exact h _ ⟨t, ⟨ht, hv⟩, rfl⟩
  · rintro h x ⟨t, ⟨ht, hv⟩, rfl⟩; exact h t ht hv

set_option maxRecDepth 100000 in
theorem refVars_any (n : Nat) (va : Value) (ts : List TermD) (w : World) (ha : TermsIn n w va ts) (hn : n ≤ w.heap.size) :
    Calls Try.prog 77 #[va] w fun e w' => ∃ v, e = .returned v ∧ w'.ownsRow w.heap.size 9 1 v (varsL ts).length ((varsL ts).map .string) ∧ Keep (fun b => b < w.heap.size) w w' := by
  obtain ⟨aa, ca, rfl, hla, hca, hea⟩ := id ha
  have Xha := Lib.hid ha
  have Xhea := Lib.hid hea
  clear ha hea
  go_enter Try.func77, Try.ntmps77
  go_wp2_with fail
  go_loopw [3, 4] (fun v3 i wr => ∃ k : Nat, k ≤ ts.length ∧ i = .int .i64 (k : Int) ∧ Keep (fun b => b < w.heap.size) w wr ∧ wr.ownsRow w.heap.size 9 1 v3 (varsL (ts.take k)).length ((varsL (ts.take k)).map .string)) (fun _ i _ => ts.length - (intOf i).toNat)
  case atStart => exact ⟨0, by omega, rfl, Keep.refl _ _, World.ownsRow_nil _ _ _ _⟩
  case round =>
    obtain ⟨k, hk, rfl, hK, ho⟩ := hrel
    have hsz := hK.size
    by_cases hlt : k < ts.length
    · have hlt1 : (k : Int) < ts.length := by omega
      have hk0 : (0 : Int) ≤ k := by omega
      obtain ⟨x, hx⟩ : ∃ x, ts[k]? = some x := ⟨_, List.getElem?_eq_getElem hlt⟩
      obtain ⟨b, o, rfl, hb, q0, q1⟩ := Xhea.out k x hx
      have f0 := hK.cell q0 (show b < w.heap.size by omega)
      have f1 := hK.cell q1 (show b < w.heap.size by omega)
      have hbw : b < wr.heap.size := by omega
      have hns := varsL_snoc ts hx
      have hl2 := varsL_len (ts.take k)
      rw [List.length_take] at hl2
      obtain ⟨v, s⟩ := x
      simp only at f0 f1 hns
      clear q0 q1 hx
      cases v
      · simp only [Bool.false_eq_true, if_false] at hns
        rw [← hns] at ho
        have XhK := Lib.hid hK
        have Xho := Lib.hid ho
        have Xhns := Lib.hid hns
        clear hK ho hns
        go_wp2_with fail
        go_roundw
        case rel => exact ⟨k + 1, by omega, by go_num, XhK.out, Xho.out⟩
        case measure => simp [intOf]; omega
      · simp only [if_true] at hns
        have hct := refIn_any wr.heap.size u3 (varsL (ts.take k)) s wr (own_strs ho (by omega)) (Nat.le_refl _)
        obtain ⟨bi, hbi⟩ : ∃ b, decide (s ∈ varsL (ts.take k)) = b := ⟨_, rfl⟩
        rw [hbi] at hct
        cases bi
        · rw [if_neg (of_decide_eq_false hbi)] at hns
          obtain ⟨v', W3, hr3, ho3, hk3, g, cap, hv3, hg3, hl3'⟩ := app1 (P := Try.prog) el_strs 71 ho [.string s] rfl (by simp [Value.oneCell']) (by omega) (by omega)
          subst hv3
          have hln : (varsL (ts.take k)).length + 1 = (varsL (ts.take (k + 1))).length := by rw [hns, List.length_append]; rfl
          rw [hln] at hr3 ho3
          rw [show (varsL (ts.take k)).map Value.string ++ [Value.string s] = (varsL (ts.take (k + 1))).map .string from by rw [hns, List.map_append]; rfl] at ho3
          have hK3 : Keep (fun b => b < w.heap.size) w W3 := hK.trans (hk3.mono fun b hb h e => by have := (World.ownsRow.lt ho b e.symm).1; omega)
          clear hbi ho hk3 hK
          have Xhr3 := Lib.hid hr3
          have XhK3 := Lib.hid hK3
          have Xho3 := Lib.hid ho3
          have Xhns := Lib.hid hns
          have Xhct := Lib.hid hct
          clear hr3 hK3 ho3 hns hct
          go_wp2_with fail
          refine Xhct.out.mono ?_
          rintro e w9 ⟨rfl, hw9⟩; have hw9 := hw9.symm; subst hw9
          go_wp2_with (at_builtin; refine go_app (v := u3) (u := .slice (some ⟨wr.heap.size, 0, none⟩) 1 1) (v' := .slice (some ⟨g, 0, none⟩) (varsL (ts.take (k + 1))).length cap) (w' := W3) rfl (.tmp 26) (.tmp 32) 71 rfl rfl rfl Xhr3.out ?_)
          go_roundw
          case rel => exact ⟨k + 1, by omega, by go_num, XhK3.out, Xho3.out⟩
          case measure => simp [intOf]; omega
        · rw [if_pos (of_decide_eq_true hbi)] at hns
          rw [← hns] at ho
          clear hbi
          have XhK := Lib.hid hK
          have Xho := Lib.hid ho
          have Xhns := Lib.hid hns
          have Xhct := Lib.hid hct
          clear hK ho hns hct
          go_wp2_with fail
          refine Xhct.out.mono ?_
          rintro e w9 ⟨rfl, hw9⟩; have hw9 := hw9.symm; subst hw9
          go_wp2_with fail
          go_roundw
          case rel => exact ⟨k + 1, by omega, by go_num, XhK.out, Xho.out⟩
          case measure => simp [intOf]; omega
    · obtain rfl : k = ts.length := by omega
      rw [List.take_length] at ho
      obtain ⟨a3, c3, rfl⟩ := own_form ho
      have XhK := Lib.hid hK
      have Xho := Lib.hid ho
      clear hK ho
      go_wp2_with fail
      go_ret
      exact ⟨_, rfl, Xho.out, XhK.out⟩

set_option maxRecDepth 100000 in
theorem refTerms_any (n : Nat) (L : LitD) (sa : Value) (w : World) (ha : TermsIn n w sa L.atom.args) (hn : n ≤ w.heap.size) : Calls Try.prog 93 #[litV L sa] w fun e w' => ∃ sv, e = .returned sv ∧ TermsIn w'.heap.size w' sv (termsP L) ∧ Keep (fun _ => True) w w' := by
  obtain ⟨aa, ca, rfl, -, -, -⟩ := id ha
  obtain ⟨k, ⟨pr, args⟩, ⟨lv, lt⟩, ⟨rv, rt⟩⟩ := L
  unfold litV
  simp only at ha ⊢
  by_cases h3 : k = 3
  · subst h3
    have hT : termsP ⟨3, ⟨pr, args⟩, ⟨lv, lt⟩, ⟨rv, rt⟩⟩ = [⟨lv, lt⟩, ⟨rv, rt⟩] := rfl
    have Xha := Lib.hid ha
    have XhT := Lib.hid hT
    clear ha hT
    go_enter Try.func93, Try.ntmps93
    go_wp2_with fail
    go_ret
    refine ⟨_, rfl, ?_, (Keep.alloc _ _ _).trans (Keep.alloc _ _ _)⟩
    rw [XhT.out]
    have hb := cells_of_block (new_block (w.alloc (.cells #[.int .i64 3, .string pr, .slice aa args.length ca, .bool lv, .string lt, .bool rv, .string rt] 78)) (.cells #[.bool lv, .string lt, .bool rv, .string rt] 76))
    simp only [World.size_alloc] at hb
    have q0 := hb 0 _ rfl
    have q1 := hb 1 _ rfl
    have q2 := hb 2 _ rfl
    have q3 := hb 3 _ rfl
    refine ⟨_, _, rfl, by simp, by simp [maxLen], fun j x hx => ⟨_, 0, rfl, by simp, ?_⟩⟩
    match j, hx with
    | 0, hx => simp at hx; subst hx; exact ⟨q0, q1⟩
    | 1, hx => simp at hx; subst hx; exact ⟨q2, q3⟩
  · have hT : termsP ⟨k, ⟨pr, args⟩, ⟨lv, lt⟩, ⟨rv, rt⟩⟩ = args := by unfold termsP; rw [if_neg h3]
    have Xha := Lib.hid ha
    have XhT := Lib.hid hT
    clear ha hT
    go_enter Try.func93, Try.ntmps93
    go_wp2_with fail
    go_ret
    refine ⟨_, rfl, ?_, Keep.alloc _ _ _⟩
    rw [XhT.out]
    exact terms_wider (terms_keep Xha.out ((Keep.alloc (fun _ => True) _ _).mono fun _ _ _ => trivial)) (by simp; omega)

set_option maxRecDepth 100000 in
theorem refAll_any (n : Nat) (va vb : Value) (xs ys : List ByteArray) (w : World) (ha : StrsIn n w va xs) (hb : StrsIn n w vb ys) (hn : n ≤ w.heap.size) :
    Calls Try.prog 92 #[va, vb] w fun e w' => e = .returned (.bool (xs.all fun x => decide (x ∈ ys))) ∧ w' = w := by
  obtain ⟨aa, ca, rfl, hla, hca, hea⟩ := id ha
  have hin := fun x => refIn_any n vb ys x w hb hn
  obtain ⟨ab, cb, rfl, -, -, -⟩ := id hb
  clear ha hb
  have Xhea := Lib.hid hea
  have Xhin := Lib.hid hin
  clear hea hin
  go_enter Try.func92, Try.ntmps92
  go_wp2_with fail
  go_loopw [5] (fun i wr => ∃ k : Nat, k ≤ xs.length ∧ i = .int .i64 (k : Int) ∧ wr = w ∧ (xs.take k).all (fun x => decide (x ∈ ys)) = true) (fun i _ => xs.length - (intOf i).toNat)
  case atStart => exact ⟨0, by omega, rfl, rfl, rfl⟩
  case round =>
    obtain ⟨k, hk, rfl, hw, hall⟩ := hrel
    have hw := hw.symm
    subst hw
    by_cases hlt : k < xs.length
    · have hlt1 : (k : Int) < xs.length := by omega
      have hk0 : (0 : Int) ≤ k := by omega
      obtain ⟨x, hx⟩ : ∃ x, xs[k]? = some x := ⟨_, List.getElem?_eq_getElem hlt⟩
      obtain ⟨b, o, rfl, hb, f0⟩ := Xhea.out k x hx
      unfold StrE at f0
      simp only [Nat.mul_one] at f0
      have hbw : b < w.heap.size := by omega
      have hst := all_step (fun x => decide (x ∈ ys)) xs hx
      have hno := all_not (fun x => decide (x ∈ ys)) xs hx
      have hct := Xhin.out x
      obtain ⟨bi, hbi⟩ : ∃ b, decide (x ∈ ys) = b := ⟨_, rfl⟩
      simp only [hbi, hall, Bool.true_and] at hct hst hno
      clear hbi hx hall
      have Xhct := Lib.hid hct
      have Xhst := Lib.hid hst
      have Xhno := Lib.hid hno
      clear hct hst hno
      cases bi
      · go_wp2_with fail
        refine Xhct.out.mono ?_
        rintro e w9 ⟨rfl, hw9⟩; have hw9 := hw9.symm; subst hw9
        go_wp2_with fail
        go_ret
        exact ⟨by rw [Xhno.out (by trivial)]; rfl, rfl⟩
      · go_wp2_with fail
        refine Xhct.out.mono ?_
        rintro e w9 ⟨rfl, hw9⟩; have hw9 := hw9.symm; subst hw9
        go_wp2_with fail
        go_roundw
        case rel => exact ⟨k + 1, by omega, by go_num, by trivial, Xhst.out⟩
        case measure => simp [intOf]; omega
    · obtain rfl : k = xs.length := by omega
      rw [List.take_length] at hall
      have Xhall := Lib.hid hall
      clear hall
      go_wp2_with fail
      go_ret
      exact ⟨by rw [Xhall.out]; rfl, rfl⟩

set_option maxRecDepth 100000 in
theorem refReady_any (n : Nat) (K : List ByteArray) (vk : Value) (L : LitD) (sa : Value) (w : World) (hS : StrsIn n w vk K) (ha : TermsIn n w sa L.atom.args) (hn : n ≤ w.heap.size) : Calls Try.prog 76 #[litV L sa, vk] w fun e w' => e = .returned (.bool (readyP K L)) ∧ Keep (fun b => b < w.heap.size) w w' := by
  have h1 := fun W (hK : Keep (fun _ => True) w W) => refTerms_any n L sa W (terms_keep ha (hK.mono fun _ _ _ => trivial)) (by have := hK.size; omega)
  have hE : readyP K L = (decide (L.kind = 1) || !(termsP L).any (openD K)) := rfl
  have hV := ready_vars K (termsP L)
  have h2 := fun W sv (hT : TermsIn W.heap.size W sv (termsP L)) => refVars_any W.heap.size sv (termsP L) W hT (Nat.le_refl _)
  have hvl := varsL_len (termsP L)
  have h3 := fun W (hK : Keep (fun b => b < w.heap.size) w W) va (hv : StrsIn W.heap.size W va (varsL (termsP L))) => refAll_any W.heap.size va vk (varsL (termsP L)) K W hv (strs_wider (strs_keep hS (hK.mono fun b _ h => by omega)) (by have := hK.size; omega)) (Nat.le_refl _)
  obtain ⟨b2, hb2⟩ : ∃ b, (termsP L).any (openD K) = b := ⟨_, rfl⟩
  rw [hb2] at hE hV
  simp only [hV] at h3
  have hla : (termsP L).length ≤ 1073741824 := by
    obtain ⟨_, _, _, h, _⟩ := ha
    unfold termsP
    split
    · simp
    · exact h
  obtain ⟨ak, ck, rfl, -, -, -⟩ := id hS
  obtain ⟨aa, ca, rfl, -, -, -⟩ := id ha
  obtain ⟨k, ⟨pr, args⟩, ⟨lv, lt⟩, ⟨rv, rt⟩⟩ := L
  unfold litV at h1 ⊢
  simp only at h1 hE ⊢
  clear hb2 ha hS hV
  by_cases hk : k = 1
  · subst hk
    have Xh1 := Lib.hid h1
    have Xh2 := Lib.hid h2
    have Xh3 := Lib.hid h3
    have XhE := Lib.hid hE
    clear h1 h2 h3 hE
    go_enter Try.func76, Try.ntmps76
    go_wp2_with fail
    go_ret
    exact ⟨by rw [XhE.out]; rfl, Keep.alloc _ _ _⟩
  · rw [decide_eq_false hk, Bool.false_or] at hE
    have hkb : (k == 1) = false := beq_eq_false_iff_ne.2 hk
    have Xh1 := Lib.hid h1
    have Xh2 := Lib.hid h2
    have Xh3 := Lib.hid h3
    have XhE := Lib.hid hE
    have Xhk := Lib.hid hk
    clear h1 h2 h3 hE hk
    go_enter Try.func76, Try.ntmps76
    go_wp2_with fail
    refine (Xh1.out _ (Keep.alloc _ _ _)).mono ?_
    rintro e w1 ⟨sv, rfl, hsv, k1⟩
    have k2 : Keep (fun _ => True) w w1 := (Keep.alloc _ _ _).trans k1
    have h4 := Xh2.out w1 sv hsv
    obtain ⟨a3, c3, rfl, -, -, -⟩ := id hsv
    clear hsv k1
    have Xh4 := Lib.hid h4
    have Xk2 := Lib.hid k2
    clear h4 k2
    go_wp2_with fail
    refine Xh4.out.mono ?_
    rintro e w2 ⟨v2, rfl, ho, k3⟩
    have k4 : Keep (fun b => b < w.heap.size) w w2 := (Xk2.out.mono fun _ _ _ => trivial).trans (k3.mono fun b hb h => by have := Xk2.out.size; omega)
    have h5 := Xh3.out w2 k4 v2 (own_strs ho (by omega))
    obtain ⟨a5, c5, rfl⟩ := own_form ho
    clear ho k3
    have Xh5 := Lib.hid h5
    have Xk4 := Lib.hid k4
    clear h5 k4
    go_wp2_with fail
    refine Xh5.out.mono ?_
    rintro e w9 ⟨rfl, hw9⟩; have hw9 := hw9.symm; subst hw9
    go_wp2_with fail
    go_ret
    exact ⟨by rw [XhE.out]; rfl, Xk4.out⟩
end Go.Proofs
