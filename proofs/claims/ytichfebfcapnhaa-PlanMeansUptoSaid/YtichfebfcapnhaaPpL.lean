/- Layer 16 (plan): rows with their refusals, sums, costs; the law's alike. -/
import Derived.Test.YtichfebfcapnhaaProg
import Derived.Test.YtichfebfcapnhaaPpK
import Derived.Test.YtichfebfcapnhaaPnHToPnI
import Derived.BigQuiet
namespace Go.Proofs
open Go.RowKit Go.Ink Go.Flt
set_option linter.unusedVariables false
set_option linter.unusedSimpArgs false
attribute [local go_sem] Oper.semAt_some
attribute [local go_sem] run_store_float

/-- a double in one cell -/
def FloatE (w : World) (b o : Nat) (s : Nat) : Prop := w.cell? ⟨b, o, none⟩ = some (.float .f64 s)
abbrev FloatsIn (n : Nat) (w : World) (v : Value) (ss : List Nat) : Prop := SliceIn n w 1 FloatE v ss
theorem own_floats {w : World} {base : Nat} {e : TypeId} {v : Value} {n : Nat} {ss : List Nat} (h : w.ownsRow base e 1 v n (ss.map (.float .f64))) (hb : ss.length ≤ 1073741824) : FloatsIn w.heap.size w v ss :=
  own_slice h ss (by have := h.1; simpa using this.symm) hb FloatE fun b k d hd hc => by
    have := hc 0 (by omega)
    simp only [Nat.mul_one, Nat.add_zero] at this ⊢
    rw [FloatE, this]; simp [hd]
theorem floats_kept {n : Nat} {w w' : World} {v : Value} {ss : List Nat} (h : FloatsIn n w v ss) (hK : Keep (fun k => k < n) w w') : FloatsIn n w' v ss := h.mono fun _ _ _ hb h => hK.cell h hb
theorem floats_wider {n n' : Nat} {w : World} {v : Value} {ss : List Nat} (h : FloatsIn n w v ss) (hn : n ≤ n') : FloatsIn n' w v ss := SliceIn.wider h hn fun _ _ _ _ h => h

def sumD (l : List Nat) : Nat := l.foldl fadd 0
theorem sumD_snoc (l : List Nat) {k : Nat} {x : Nat} (h : l[k]? = some x) : sumD (l.take (k + 1)) = fadd (sumD (l.take k)) x := by
  unfold sumD
  rw [List.take_add_one, h, List.foldl_append]
  rfl
theorem sumD_inf {l : List Nat} (h : ∀ x, x ∈ l → x ≤ 9094988921128908188) (k : Nat) (hk : k ≤ l.length) : sumD (l.take k) ≤ 9218868437227405312 := by
  induction k with
  | zero => simp [sumD]
  | succ k ih =>
    have hx := List.getElem?_eq_getElem (show k < l.length by omega)
    rw [sumD_snoc l hx]
    exact (add_ok (ih (by omega)) (by have := h _ (List.getElem_mem (show k < l.length by omega)); omega)).2
theorem run_fadd {a b : Nat} (ha : a ≤ 9218868437227405312) (hb : b ≤ 9218868437227405312) (w : World) : (binOp .add 49 (.float .f64 a) (.float .f64 b)).run Try.prog w = .ok (.float .f64 (fadd a b)) w := run_float_arith w .add _ .f64 a b _ (add_ok ha hb).1
/-- what a plan costs -/
def costD (p : PlanD) (l : List SizeD) : Nat := sumD (rowsD p l)
theorem rowsD_le {p : PlanD} {l : List SizeD} : ∀ x, x ∈ rowsD p l → x ≤ 9094988921128908188 := by
  intro x hx
  unfold rowsD at hx
  split at hx
  · rename_i h
    have hu : usableB l = true := by
      unfold rowsErr at h
      split at h
      · split at h
        · assumption
        · exact absurd h (by decide)
      · exact absurd h (by decide)
    unfold rowsL at hx
    obtain ⟨i, _, rfl⟩ := List.mem_map.1 hx
    exact rowAt_le hu _
  · simp at hx
theorem rowsD_len {p : PlanD} {l : List SizeD} : (rowsD p l).length ≤ p.steps.length := by
  unfold rowsD
  split
  · rw [rowsL_len]; exact Nat.le_refl _
  · simp

set_option maxRecDepth 100000 in
set_option maxHeartbeats 1000000 in
theorem refRows_any (n : Nat) (p : PlanD) (hsm : smallR p.rule) (vh vb vs : Value) (l : List SizeD) (sv : Value) (w : World) (hp : PlanIn n w vh vb vs p) (hl : SizesIn n w sv l) (hn : n ≤ w.heap.size) :
    Calls Try.prog 19 #[planV p vh vb vs, sv] w fun e w' => ∃ v, e = .returned (.tuple #[v, .int .i64 (rowsErr p l)]) ∧ w'.ownsRow w.heap.size 49 1 v (rowsD p l).length ((rowsD p l).map (.float .f64)) ∧ Keep (fun b => b < w.heap.size) w w' := by
  have hright := fun W (hK : Keep (fun b => b < w.heap.size) w W) => refRight_any n p hsm vh vb vs W (hp.keep (hK.mono fun b _ h => by omega)) (by have := hK.size; omega)
  have husable := fun W (hK : Keep (fun b => b < w.heap.size) w W) => may_any n l sv W (hl.keep (hK.mono fun b _ h => by omega)) (by have := hK.size; omega)
  have hrows := fun h1 h2 W (hK : Keep (fun b => b < w.heap.size) w W) => refrows_any n p vh vb vs l sv h1 h2 W (hp.keep (hK.mono fun b _ h => by omega)) (hl.keep (hK.mono fun b _ h => by omega)) (by have := hK.size; omega)
  have hErr : rowsErr p l = if rightB p then (if usableB l then 0 else 2) else 260 := rfl
  have hD : rowsD p l = if rowsErr p l = 0 then rowsL p.rule.body l p.steps p.steps.length else [] := rfl
  obtain ⟨br, hbr⟩ : ∃ b, rightB p = b := ⟨_, rfl⟩
  obtain ⟨bu, hbu⟩ : ∃ b, usableB l = b := ⟨_, rfl⟩
  rw [hbr, hbu] at hErr
  rw [hErr] at hD
  simp only [hbr] at hright
  simp only [hbu] at husable
  obtain ⟨hr, hs⟩ := id hp
  obtain ⟨⟨⟨pr, args⟩, body⟩, ss⟩ := p
  unfold planV at *
  simp only at hr hs hright hErr hD hrows ⊢
  obtain ⟨hh, hb⟩ := id hr
  simp only at hh hb
  obtain ⟨aa, ca, rfl, hla, -, -⟩ := id hh
  obtain ⟨ab, cb, rfl, hlb, -, -⟩ := id hb
  obtain ⟨asv, csv, rfl, hls, -, -⟩ := id hs
  obtain ⟨asl, csl, rfl, -, -, -⟩ := id hl
  obtain ⟨N, hN⟩ : ∃ N, w.heap.size = N := ⟨_, rfl⟩
  obtain ⟨W0, hW0⟩ : ∃ W0, w.alloc (.cells #[.string pr, .slice aa args.length ca, .slice ab body.length cb, .slice asv ss.length csv] 34) = W0 := ⟨_, rfl⟩
  have k0 : Keep (fun b => b < w.heap.size) w W0 := by rw [← hW0]; exact Keep.alloc _ _ _
  have z0 : W0.heap.size = w.heap.size + 1 := by rw [← hW0]; simp
  have a1 : W0.heap[w.heap.size]? = some (.cells #[.string pr, .slice aa args.length ca, .slice ab body.length cb, .slice asv ss.length csv] 34 (0, 0)) := by rw [← hW0]; exact new_block _ _
  have hr0 := hright W0 k0
  rw [hN] at a1 z0
  have c0 := cells_of_block a1 0 _ rfl
  have c1 := cells_of_block a1 1 _ rfl
  have c2 := cells_of_block a1 2 _ rfl
  have c3 := cells_of_block a1 3 _ rfl
  simp only [Nat.zero_add] at c0 c1 c2 c3
  have hNl : N < W0.heap.size := by omega
  clear hh hb hr hs hp hright
  have XhErr := Lib.hid hErr
  have XhD := Lib.hid hD
  have Xhusable := Lib.hid husable
  have Xhrows := Lib.hid hrows
  have Xhbr := Lib.hid hbr
  have Xhbu := Lib.hid hbu
  have XhN := Lib.hid hN
  have XhW0 := Lib.hid hW0
  have Xk0 := Lib.hid k0
  have Xa1 := Lib.hid a1
  have Xhr0 := Lib.hid hr0
  have Xhl := Lib.hid hl
  clear hErr hD husable hrows hbr hbu hN hW0 k0 a1 hr0 hl
  cases br
  · go_enter Try.func19, Try.ntmps19
    go_wp2_with fail
    rw [XhW0.out, XhN.out]
    refine Xhr0.out.mono ?_
    rintro e W1 ⟨rfl, k1⟩
    go_wp2_with fail
    refine bodyPost_ret (results_tmp2 rfl _ _ _) rfl ?_
    exact ⟨_, by rw [XhErr.out]; rfl, by rw [XhD.out]; exact World.ownsRow_nil _ _ _ _, Xk0.out.trans (k1.mono fun b _ h => by have := XhN.out; omega)⟩
  · cases bu
    · go_enter Try.func19, Try.ntmps19
      go_wp2_with fail
      rw [XhW0.out, XhN.out]
      refine Xhr0.out.mono ?_
      rintro e W1 ⟨rfl, k1⟩
      have kk : Keep (fun b => b < w.heap.size) w W1 := Xk0.out.trans (k1.mono fun b _ h => by have := XhN.out; omega)
      have hu1 := Xhusable.out W1 kk
      clear k1
      have Xkk := Lib.hid kk
      have Xhu1 := Lib.hid hu1
      clear kk hu1
      go_wp2_with fail
      refine Xhu1.out.mono ?_
      rintro e w9 ⟨rfl, hw9⟩; have hw9 := hw9.symm; subst hw9
      go_wp2_with fail
      refine bodyPost_ret (results_tmp2 rfl _ _ _) rfl ?_
      exact ⟨_, by rw [XhErr.out]; rfl, by rw [XhD.out]; exact World.ownsRow_nil _ _ _ _, Xkk.out⟩
    · go_enter Try.func19, Try.ntmps19
      go_wp2_with fail
      rw [XhW0.out, XhN.out]
      refine Xhr0.out.mono ?_
      rintro e W1 ⟨rfl, k1⟩
      have hz1 := k1.size
      have kk : Keep (fun b => b < w.heap.size) w W1 := Xk0.out.trans (k1.mono fun b _ h => by have := XhN.out; omega)
      have hu1 := Xhusable.out W1 kk
      have hrw := Xhrows.out Xhbr.out Xhbu.out W1 kk
      have e0 := k1.cell c0 hNl
      have e1 := k1.cell c1 hNl
      have e2 := k1.cell c2 hNl
      have e3 := k1.cell c3 hNl
      have hNl1 : N < W1.heap.size := by omega
      clear k1 c0 c1 c2 c3
      have Xkk := Lib.hid kk
      have Xhu1 := Lib.hid hu1
      have Xhrw := Lib.hid hrw
      clear kk hu1 hrw
      go_wp2_with fail
      refine Xhu1.out.mono ?_
      rintro e w9 ⟨rfl, hw9⟩; have hw9 := hw9.symm; subst hw9
      go_wp2_with fail
      refine Xhrw.out.mono ?_
      rintro e W2 ⟨v, rfl, ho, k2⟩
      obtain ⟨av, cv, rfl⟩ := own_form ho
      have Xho := Lib.hid ho
      have Xk2 := Lib.hid k2
      clear ho k2
      go_wp2_with fail
      refine bodyPost_ret (results_tmp2 rfl _ _ _) rfl ?_
      have hsz := Xkk.out.size
      have hDe : rowsD ⟨⟨⟨pr, args⟩, body⟩, ss⟩ l = rowsL body l ss ss.length := by rw [XhD.out]; rfl
      exact ⟨_, by rw [XhErr.out]; rfl, by rw [hDe, rowsL_len]; exact Xho.out.mono hsz, Xkk.out.trans (Xk2.out.mono fun b _ h => by omega)⟩

set_option maxRecDepth 100000 in
theorem refSum_any (n : Nat) (v : Value) (l : List Nat) (hc : ∀ x, x ∈ l → x ≤ 9094988921128908188) (w : World) (hl : FloatsIn n w v l) (hn : n ≤ w.heap.size) :
    Calls Try.prog 52 #[v] w fun e w' => e = .returned (.float .f64 (sumD l)) ∧ w' = w := by
  obtain ⟨a, c, rfl, hll, hcc, he⟩ := id hl
  have hinf := sumD_inf hc
  have Xhe := Lib.hid he
  have Xhinf := Lib.hid hinf
  have Xhc := Lib.hid hc
  have Xhl := Lib.hid hl
  clear he hinf hc hl
  go_enter Try.func52, Try.ntmps52
  go_wp2_with fail
  go_loopw [3, 4] (fun x3 i wr => ∃ k : Nat, k ≤ l.length ∧ i = .int .i64 (k : Int) ∧ x3 = .float .f64 (sumD (l.take k)) ∧ wr = w) (fun _ i _ => l.length - (intOf i).toNat)
  case atStart => exact ⟨0, by omega, rfl, rfl, rfl⟩
  case round =>
    obtain ⟨k, hk, rfl, rfl, hw⟩ := hrel
    have hw := hw.symm
    subst hw
    by_cases hlt : k < l.length
    · have hlt1 : (k : Int) < l.length := by omega
      have hk0 : (0 : Int) ≤ k := by omega
      obtain ⟨x, hx⟩ : ∃ x, l[k]? = some x := ⟨_, List.getElem?_eq_getElem hlt⟩
      obtain ⟨b, o, rfl, hb, f1⟩ := Xhe.out k x hx
      unfold FloatE at f1
      simp only [Nat.mul_one] at f1
      have hbw : b < w.heap.size := by omega
      have hadd := fun w => run_fadd (Xhinf.out k hk) (show x ≤ 9218868437227405312 by have := Xhc.out x (List.mem_of_getElem? hx); omega) w
      have hs := sumD_snoc l hx
      rw [← hs] at hadd
      obtain ⟨s1, hs1⟩ : ∃ s, sumD (l.take k) = s := ⟨_, rfl⟩
      obtain ⟨s2, hs2⟩ : ∃ s, sumD (l.take (k + 1)) = s := ⟨_, rfl⟩
      rw [hs2] at hadd
      rw [hs1] at hadd ⊢
      clear hs hx hs1
      have Xhs2 := Lib.hid hs2
      clear hs2
      go_wp2_with fail
      go_roundw
      case rel => exact ⟨k + 1, by omega, by go_num, by rw [Xhs2.out], trivial⟩
      case measure => simp [intOf]; omega
    · obtain rfl : k = l.length := by omega
      rw [List.take_length]
      go_wp2_with fail
      go_ret
      exact ⟨rfl, rfl⟩

set_option maxRecDepth 100000 in
set_option maxHeartbeats 1000000 in
theorem refCost_any (n : Nat) (p : PlanD) (hsm : smallR p.rule) (vh vb vs : Value) (l : List SizeD) (sv : Value) (w : World) (hp : PlanIn n w vh vb vs p) (hl : SizesIn n w sv l) (hn : n ≤ w.heap.size) :
    Calls Try.prog 21 #[planV p vh vb vs, sv] w fun e w' => e = .returned (.tuple #[.float .f64 (costD p l), .int .i64 (rowsErr p l)]) ∧ Keep (fun b => b < w.heap.size) w w' := by
  have hrows := fun W (hK : Keep (fun b => b < w.heap.size) w W) => refRows_any n p hsm vh vb vs l sv W (hp.keep (hK.mono fun b _ h => by omega)) (hl.keep (hK.mono fun b _ h => by omega)) (by have := hK.size; omega)
  have hC : costD p l = sumD (rowsD p l) := rfl
  have hD : rowsErr p l ≠ 0 → rowsD p l = [] := fun h => by unfold rowsD; rw [if_neg h]
  have hle := rowsD_le (p := p) (l := l)
  have hlen := rowsD_len (p := p) (l := l)
  obtain ⟨hr, hs⟩ := id hp
  obtain ⟨⟨⟨pr, args⟩, body⟩, ss⟩ := p
  unfold planV at *
  simp only at hr hs hrows hlen ⊢
  obtain ⟨hh, hb⟩ := id hr
  simp only at hh hb
  obtain ⟨aa, ca, rfl, -, -, -⟩ := id hh
  obtain ⟨ab, cb, rfl, -, -, -⟩ := id hb
  obtain ⟨asv, csv, rfl, hls, -, -⟩ := id hs
  obtain ⟨asl, csl, rfl, -, -, -⟩ := id hl
  obtain ⟨N, hN⟩ : ∃ N, w.heap.size = N := ⟨_, rfl⟩
  obtain ⟨W0, hW0⟩ : ∃ W0, w.alloc (.cells #[.string pr, .slice aa args.length ca, .slice ab body.length cb, .slice asv ss.length csv] 34) = W0 := ⟨_, rfl⟩
  have k0 : Keep (fun b => b < w.heap.size) w W0 := by rw [← hW0]; exact Keep.alloc _ _ _
  have z0 : W0.heap.size = w.heap.size + 1 := by rw [← hW0]; simp
  have a1 : W0.heap[w.heap.size]? = some (.cells #[.string pr, .slice aa args.length ca, .slice ab body.length cb, .slice asv ss.length csv] 34 (0, 0)) := by rw [← hW0]; exact new_block _ _
  have hr0 := hrows W0 k0
  rw [hN] at a1
  have c0 := cells_of_block a1 0 _ rfl
  have c1 := cells_of_block a1 1 _ rfl
  have c2 := cells_of_block a1 2 _ rfl
  have c3 := cells_of_block a1 3 _ rfl
  simp only [Nat.zero_add] at c0 c1 c2 c3
  have hNl : N < W0.heap.size := by omega
  obtain ⟨er, her⟩ : ∃ e, rowsErr ⟨⟨⟨pr, args⟩, body⟩, ss⟩ l = e := ⟨_, rfl⟩
  obtain ⟨rd, hrd⟩ : ∃ e, rowsD ⟨⟨⟨pr, args⟩, body⟩, ss⟩ l = e := ⟨_, rfl⟩
  obtain ⟨co, hco⟩ : ∃ e, costD ⟨⟨⟨pr, args⟩, body⟩, ss⟩ l = e := ⟨_, rfl⟩
  rw [her, hrd] at hr0 hD
  rw [hrd] at hC hle hlen
  rw [her, hco]
  rw [hco] at hC
  clear hh hb hr hs hp hrows her hrd hco
  have XhC := Lib.hid hC
  have XhD := Lib.hid hD
  have XhN := Lib.hid hN
  have XhW0 := Lib.hid hW0
  have Xk0 := Lib.hid k0
  have Xa1 := Lib.hid a1
  have Xhr0 := Lib.hid hr0
  have Xhl := Lib.hid hl
  have Xhle := Lib.hid hle
  clear hC hD hN hW0 k0 a1 hr0 hl hle
  by_cases he : er = 0
  · subst he
    go_enter Try.func21, Try.ntmps21
    go_wp2_with fail
    rw [XhW0.out, XhN.out]
    refine Xhr0.out.mono ?_
    rintro e W1 ⟨v, rfl, ho, k1⟩
    obtain ⟨av, cv, rfl⟩ := own_form ho
    have hsum := refSum_any W1.heap.size _ rd Xhle.out W1 (own_floats ho (by omega)) (Nat.le_refl _)
    rw [← XhC.out] at hsum
    clear ho
    have Xhsum := Lib.hid hsum
    have Xk1 := Lib.hid k1
    clear hsum k1
    go_wp2_with fail
    refine Xhsum.out.mono ?_
    rintro e w9 ⟨rfl, hw9⟩; have hw9 := hw9.symm; subst hw9
    go_wp2_with fail
    refine bodyPost_ret (results_tmp2 rfl _ _ _) rfl ?_
    exact ⟨rfl, Xk0.out.trans (Xk1.out.mono fun b _ h => by have := XhN.out; omega)⟩
  · have hne : (er != 0) = true := bne_iff_ne.2 he
    have hE := XhD.out he
    subst hE
    clear he
    go_enter Try.func21, Try.ntmps21
    go_wp2_with fail
    rw [XhW0.out, XhN.out]
    refine Xhr0.out.mono ?_
    rintro e W1 ⟨v, rfl, ho, k1⟩
    obtain ⟨av, cv, rfl⟩ := own_form ho
    clear ho
    have Xk1 := Lib.hid k1
    clear k1
    go_wp2_with fail
    refine bodyPost_ret (results_tmp2 rfl _ _ _) rfl ?_
    exact ⟨by rw [XhC.out]; rfl, Xk0.out.trans (Xk1.out.mono fun b _ h => by have := XhN.out; omega)⟩

set_option maxRecDepth 100000 in
set_option maxHeartbeats 1000000 in
theorem cost_any (n : Nat) (p : PlanD) (vh vb vs : Value) (l : List SizeD) (sv : Value) (w : World) (hp : PlanIn n w vh vb vs p) (hl : SizesIn n w sv l) (hn : n ≤ w.heap.size) :
    Calls Try.prog 20 #[planV p vh vb vs, sv] w fun e w' => e = .returned (.tuple #[.float .f64 (costD p l), .int .i64 (rowsErr p l)]) ∧ Keep (fun b => b < w.heap.size) w w' := by
  have hrows := fun W (hK : Keep (fun b => b < w.heap.size) w W) => rows_any n p vh vb vs l sv W (hp.keep (hK.mono fun b _ h => by omega)) (hl.keep (hK.mono fun b _ h => by omega)) (by have := hK.size; omega)
  have hC : costD p l = sumD (rowsD p l) := rfl
  have hle := rowsD_le (p := p) (l := l)
  have hlen := rowsD_len (p := p) (l := l)
  have hinf := sumD_inf hle
  obtain ⟨hr, hs⟩ := id hp
  obtain ⟨⟨⟨pr, args⟩, body⟩, ss⟩ := p
  unfold planV at *
  simp only at hr hs hrows hlen ⊢
  obtain ⟨hh, hb⟩ := id hr
  simp only at hh hb
  obtain ⟨aa, ca, rfl, -, -, -⟩ := id hh
  obtain ⟨ab, cb, rfl, -, -, -⟩ := id hb
  obtain ⟨asv, csv, rfl, hls, -, -⟩ := id hs
  obtain ⟨asl, csl, rfl, -, -, -⟩ := id hl
  obtain ⟨N, hN⟩ : ∃ N, w.heap.size = N := ⟨_, rfl⟩
  obtain ⟨W0, hW0⟩ : ∃ W0, w.alloc (.cells #[.string pr, .slice aa args.length ca, .slice ab body.length cb, .slice asv ss.length csv] 34) = W0 := ⟨_, rfl⟩
  have k0 : Keep (fun b => b < w.heap.size) w W0 := by rw [← hW0]; exact Keep.alloc _ _ _
  have z0 : W0.heap.size = w.heap.size + 1 := by rw [← hW0]; simp
  have a1 : W0.heap[w.heap.size]? = some (.cells #[.string pr, .slice aa args.length ca, .slice ab body.length cb, .slice asv ss.length csv] 34 (0, 0)) := by rw [← hW0]; exact new_block _ _
  have hr0 := hrows W0 k0
  rw [hN] at a1
  have c0 := cells_of_block a1 0 _ rfl
  have c1 := cells_of_block a1 1 _ rfl
  have c2 := cells_of_block a1 2 _ rfl
  have c3 := cells_of_block a1 3 _ rfl
  simp only [Nat.zero_add] at c0 c1 c2 c3
  have hNl : N < W0.heap.size := by omega
  obtain ⟨er, her⟩ : ∃ e, rowsErr ⟨⟨⟨pr, args⟩, body⟩, ss⟩ l = e := ⟨_, rfl⟩
  obtain ⟨rd, hrd⟩ : ∃ e, rowsD ⟨⟨⟨pr, args⟩, body⟩, ss⟩ l = e := ⟨_, rfl⟩
  obtain ⟨co, hco⟩ : ∃ e, costD ⟨⟨⟨pr, args⟩, body⟩, ss⟩ l = e := ⟨_, rfl⟩
  rw [her, hrd] at hr0
  rw [hrd] at hC hle hlen hinf
  rw [her, hco]
  rw [hco] at hC
  clear hh hb hr hs hp hrows her hrd hco
  have XhC := Lib.hid hC
  have XhN := Lib.hid hN
  have XhW0 := Lib.hid hW0
  have Xk0 := Lib.hid k0
  have Xa1 := Lib.hid a1
  have Xhr0 := Lib.hid hr0
  have Xhl := Lib.hid hl
  have Xhle := Lib.hid hle
  have Xhinf := Lib.hid hinf
  clear hC hN hW0 k0 a1 hr0 hl hle hinf
  go_enter Try.func20, Try.ntmps20
  go_wp2_with fail
  rw [XhW0.out, XhN.out]
  refine Xhr0.out.mono ?_
  rintro e W1 ⟨v, rfl, ho, k1⟩
  obtain ⟨av, cv, rfl⟩ := own_form ho
  have hfl := own_floats ho (by omega)
  obtain ⟨_, _, he, hll, -, hel⟩ := hfl
  cases he
  clear ho
  have kk : Keep (fun b => b < w.heap.size) w W1 := Xk0.out.trans (k1.mono fun b _ h => by have := XhN.out; omega)
  clear k1
  have Xkk := Lib.hid kk
  have Xhel := Lib.hid hel
  clear kk hel
  go_wp2_with fail
  go_loopw [8, 19] (fun x8 i wr => ∃ k : Nat, k ≤ rd.length ∧ i = .int .i64 (k : Int) ∧ x8 = .float .f64 (sumD (rd.take k)) ∧ wr = W1) (fun _ i _ => rd.length - (intOf i).toNat)
  case atStart => exact ⟨0, by omega, rfl, rfl, rfl⟩
  case round =>
    obtain ⟨k, hk, rfl, rfl, hw⟩ := hrel
    have hw := hw.symm
    subst hw
    by_cases hlt : k < rd.length
    · have hlt1 : (k : Int) < rd.length := by omega
      have hk0 : (0 : Int) ≤ k := by omega
      obtain ⟨x, hx⟩ : ∃ x, rd[k]? = some x := ⟨_, List.getElem?_eq_getElem hlt⟩
      obtain ⟨b, o, rfl, hb, f1⟩ := Xhel.out k x hx
      unfold FloatE at f1
      simp only [Nat.mul_one] at f1
      have hadd := fun w => run_fadd (Xhinf.out k hk) (show x ≤ 9218868437227405312 by have := Xhle.out x (List.mem_of_getElem? hx); omega) w
      have hs := sumD_snoc rd hx
      rw [← hs] at hadd
      obtain ⟨s1, hs1⟩ : ∃ s, sumD (rd.take k) = s := ⟨_, rfl⟩
      obtain ⟨s2, hs2⟩ : ∃ s, sumD (rd.take (k + 1)) = s := ⟨_, rfl⟩
      rw [hs2] at hadd
      rw [hs1] at hadd ⊢
      clear hs hx hs1
      have Xhs2 := Lib.hid hs2
      clear hs2
      go_wp2_with fail
      go_roundw
      case rel => exact ⟨k + 1, by omega, by go_num, by rw [Xhs2.out], trivial⟩
      case measure => simp [intOf]; omega
    · obtain rfl : k = rd.length := by omega
      rw [List.take_length, ← XhC.out]
      go_wp2_with fail
      refine bodyPost_ret (results_tmp2 rfl _ _ _) rfl ?_
      exact ⟨rfl, Xkk.out⟩

set_option maxRecDepth 100000 in
theorem alike_any (n : Nat) (va vb : Value) (l : List Nat) (hc : ∀ x, x ∈ l → x ≤ 9094988921128908188) (w : World) (ha : FloatsIn n w va l) (hb : FloatsIn n w vb l) (hn : n ≤ w.heap.size) :
    Calls Try.prog 22 #[va, vb] w fun e w' => e = .returned (.bool true) ∧ ∃ m, w' = w.drewN m := by
  obtain ⟨aa, ca, rfl, hla, hca, hea⟩ := id ha
  obtain ⟨ab, cb, rfl, hlb, hcb, heb⟩ := id hb
  have Xha := Lib.hid ha
  have Xhb := Lib.hid hb
  have Xhea := Lib.hid hea
  have Xheb := Lib.hid heb
  have Xhc := Lib.hid hc
  clear ha hb hea heb hc
  go_enter Try.func22, Try.ntmps22
  go_wp2_with fail
  go_loopw [5] (fun i wr => ∃ k : Nat, k ≤ l.length ∧ i = .int .i64 (k : Int) ∧ (∃ m, wr = w.drewN m)) (fun i _ => l.length - (intOf i).toNat)
  case atStart => exact ⟨0, by omega, rfl, ⟨0, rfl⟩⟩
  case round =>
    obtain ⟨k, hk, rfl, hM⟩ := hrel
    have hK : Keep (fun _ => True) w wr := by obtain ⟨m, rfl⟩ := hM; exact Keep.drewN' _ _ _
    have hs := hK.size
    by_cases hlt : k < l.length
    · obtain ⟨x, hx⟩ : ∃ x, l[k]? = some x := ⟨_, List.getElem?_eq_getElem hlt⟩
      obtain ⟨ba, oa, rfl, hba, hxa⟩ := Xhea.out k x hx
      obtain ⟨bb, ob, rfl, hbb, hyb⟩ := Xheb.out k x hx
      have f1 := hK.cell hxa trivial
      have f2 := hK.cell hyb trivial
      simp only [Nat.mul_one] at f1 f2
      have hb1 : ba < wr.heap.size := by omega
      have hb2 : bb < wr.heap.size := by omega
      have hlt1 : (k : Int) < l.length := by omega
      have hk0 : (0 : Int) ≤ k := by omega
      have hself : FloatKind.f64.format.order x x = some .eq := order_self (by have := Xhc.out x (List.mem_of_getElem? hx); omega)
      have hne : (FloatKind.f64.format.order x x != some .eq) = false := by rw [hself]; rfl
      have hne2 : (FloatKind.f64.format.order x x == some .eq) = true := by rw [hself]; rfl
      clear hx hxa hyb hself
      have XhM := Lib.hid hM
      have XhK := Lib.hid hK
      clear hM hK
      go_wp2_with fail
      go_quiet (fail)
      go_wp2_with fail
      go_roundw
      case rel => exact ⟨k + 1, by omega, by go_num, by obtain ⟨m, h⟩ := XhM.out; rw [h, World.drewN_drewN]; exact ⟨_, rfl⟩⟩
      case measure => simp [intOf]; omega
    · have hlt0 : ¬ (k : Int) < l.length := by omega
      have XhM := Lib.hid hM
      have XhK := Lib.hid hK
      clear hM hK
      go_wp2_with fail
      go_ret
      exact ⟨rfl, XhM.out⟩
end Go.Proofs
