/- Layer 16 (plan): the rows behind each step, their sum: the program's. -/
import Derived.Test.YtichfebfcapnhaaProg
import Derived.Test.YtichfebfcapnhaaPnY
namespace Go.Proofs
open Go.RowKit Go.Ink Go.Flt
set_option linter.unusedVariables false
set_option linter.unusedSimpArgs false
attribute [local go_sem] Oper.semAt_some
theorem run_store_float (P : Program) (w : World) (a : Addr) (k : FloatKind) (f : Nat) (m : Mode) : (store a (.float k f) m).run P w = stored P w a (.float k f) m := run_store P w a _ m rfl
attribute [local go_sem] run_store_float

def rowAt (ls : List LitD) (sizes : List SizeD) (ss : List StepD) : Nat → Nat
  | 0 => 4607182418800017408
  | k + 1 => behindD (rowAt ls sizes ss k) (ls.getD (ss.getD k default).lit.toNat default) (ss.getD k default).bound sizes
def rowsL (ls : List LitD) (sizes : List SizeD) (ss : List StepD) (k : Nat) : List Nat := (List.range k).map fun i => rowAt ls sizes ss (i + 1)
theorem rowsL_succ (ls : List LitD) (sizes : List SizeD) (ss : List StepD) (k : Nat) : rowsL ls sizes ss (k + 1) = rowsL ls sizes ss k ++ [rowAt ls sizes ss (k + 1)] := by
  unfold rowsL
  rw [List.range_succ, List.map_append]
  rfl
theorem rowsL_len (ls : List LitD) (sizes : List SizeD) (ss : List StepD) (k : Nat) : (rowsL ls sizes ss k).length = k := by unfold rowsL; rw [List.length_map, List.length_range]
theorem rowAt_le {ls : List LitD} {sizes : List SizeD} {ss : List StepD} (hu : usableB sizes = true) (k : Nat) : rowAt ls sizes ss k ≤ 9094988921128908188 := by
  induction k with
  | zero => simp only [rowAt]; decide
  | succ k ih => exact behind_le ih _ _ hu
/-- the refusal, or none -/
def rowsErr (p : PlanD) (sizes : List SizeD) : Int := if rightB p then (if usableB sizes then 0 else 2) else 260
def rowsD (p : PlanD) (sizes : List SizeD) : List Nat := if rowsErr p sizes = 0 then rowsL p.rule.body sizes p.steps p.steps.length else []
theorem right_parts {p : PlanD} (h : rightB p = true) : formedB p.rule = true ∧ p.steps.length = p.rule.body.length ∧ ∀ (k : Nat) (x : StepD), p.steps[k]? = some x → 0 ≤ x.lit ∧ x.lit < (p.rule.body.length : Int) ∧ ∀ c, c ∈ x.bound → 0 ≤ c := by
  unfold rightB at h
  rw [Bool.and_eq_true, Bool.and_eq_true, decide_eq_true_eq] at h
  refine ⟨h.1.1, h.1.2, fun k x hx => ?_⟩
  have hlt := (List.getElem?_eq_some_iff.1 hx).1
  cases hk : rightSt p.rule.body p.steps (k + 1) with
  | none => rw [rightSt_none hk p.steps.length (by omega)] at h; simp at h
  | some t =>
    change (rightSt p.rule.body p.steps k).bind (rightOne p.rule.body (p.steps.getD k default)) = some t at hk
    cases hs : rightSt p.rule.body p.steps k with
    | none => rw [hs] at hk; cases hk
    | some s =>
      rw [hs] at hk
      have hl := rightSt_len k s hs
      have hg : p.steps.getD k default = x := by rw [List.getD_eq_getElem?_getD, hx]; rfl
      rw [hg] at hk
      simp only [Option.bind_some] at hk
      unfold rightOne at hk
      split at hk
      · rename_i h1
        split at hk
        · rename_i h2
          refine ⟨h1.1, by have := h1.2.1; rw [hl] at this; omega, fun c hc => ?_⟩
          rw [h2.1] at hc
          exact (step_len _ _ _).2.2 c hc
        · cases hk
      · cases hk
theorem floats_eq (n : Nat) : madeCells #[.float .f64 0] n = (List.replicate n (Value.float .f64 0)).toArray := by
  apply Array.ext
  · simp [madeCells]
  · intro i h1 h2
    simp [madeCells, Nat.mod_one]
theorem info_float : (Try.prog.info? 49).map (fun i => (i.zero, i.size, i.bytes)) = some (some (.float .f64 0), 1, 8) := by kernel_rfl
theorem run_makeFloats (n : Nat) (h : n ≤ 1073741824) (u : World) : (Instr.makeSlice 44 (.int .i64 (n : Int)) (.int .i64 (n : Int))).run Try.prog u =
    .ok (.slice (some ⟨u.heap.size, 0, none⟩) n n) (u.alloc (.cells (madeCells #[.float .f64 0] n) 49)) := by
  obtain ⟨i0, hi, hz0, hz1, hz2⟩ := info_parts info_float
  have h := run_make (P := Try.prog) u 44 49 i0 (.float .f64 0) Try.underlying44 hi hz0 .i64 .i64 (n : Int) (n : Int) (by omega) (Int.le_refl _) (by rw [hz2]; omega) (by omega)
  simpa [hz1, Value.cells] using h
theorem set_mid (l : List Value) (k : Nat) (v z : Value) (h : l.length = k) (m : Nat) : (l ++ List.replicate (m + 1) z).set k v = (l ++ [v]) ++ List.replicate m z := by
  rw [List.set_append_right _ _ (by omega), h, Nat.sub_self, List.replicate_succ]
  simp

set_option maxRecDepth 100000 in
set_option maxHeartbeats 2000000 in
theorem rows_any (n : Nat) (p : PlanD) (vh vb vs : Value) (l : List SizeD) (sv : Value) (w : World) (hp : PlanIn n w vh vb vs p) (hl : SizesIn n w sv l) (hn : n ≤ w.heap.size) :
    Calls Try.prog 18 #[planV p vh vb vs, sv] w fun e w' => ∃ v, e = .returned (.tuple #[v, .int .i64 (rowsErr p l)]) ∧ w'.ownsRow w.heap.size 49 1 v (rowsD p l).length ((rowsD p l).map (.float .f64)) ∧ Keep (fun b => b < w.heap.size) w w' := by
  have hright := fun W (hK : Keep (fun b => b < w.heap.size) w W) => right_any n p vh vb vs W (hp.keep (hK.mono fun b _ h => by omega)) (by have := hK.size; omega)
  have husable := fun W (hK : Keep (fun b => b < w.heap.size) w W) => usable_any n l sv W (hl.keep (hK.mono fun b _ h => by omega)) (by have := hK.size; omega)
  have hparts := @right_parts p
  have hErr : rowsErr p l = if rightB p then (if usableB l then 0 else 2) else 260 := rfl
  have hD : rowsD p l = if rowsErr p l = 0 then rowsL p.rule.body l p.steps p.steps.length else [] := rfl
  obtain ⟨br, hbr⟩ : ∃ b, rightB p = b := ⟨_, rfl⟩
  obtain ⟨bu, hbu⟩ : ∃ b, usableB l = b := ⟨_, rfl⟩
  rw [hbr, hbu] at hErr
  rw [hErr] at hD
  simp only [hbr] at hright hparts
  simp only [hbu] at husable
  obtain ⟨hr, hs⟩ := hp
  obtain ⟨⟨⟨pr, args⟩, body⟩, ss⟩ := p
  unfold planV at *
  simp only at hr hs hright hErr hD hparts ⊢
  obtain ⟨hh, hb⟩ := id hr
  simp only at hh hb
  obtain ⟨aa, ca, rfl, hla, -, -⟩ := id hh
  obtain ⟨ab, cb, rfl, hlb, hcb, heb⟩ := id hb
  obtain ⟨asv, csv, rfl, hls, hcs, hes⟩ := id hs
  obtain ⟨asl, csl, rfl, -, -, -⟩ := id hl
  obtain ⟨N, hN⟩ : ∃ N, w.heap.size = N := ⟨_, rfl⟩
  obtain ⟨W0, hW0⟩ : ∃ W0, w.alloc (.cells #[.string pr, .slice aa args.length ca, .slice ab body.length cb, .slice asv ss.length csv] 34) = W0 := ⟨_, rfl⟩
  have k0 : Keep (fun b => b < w.heap.size) w W0 := by rw [← hW0]; exact Keep.alloc _ _ _
  have z0 : W0.heap.size = w.heap.size + 1 := by rw [← hW0]; simp
  have a1 : W0.heap[w.heap.size]? = some (.cells #[.string pr, .slice aa args.length ca, .slice ab body.length cb, .slice asv ss.length csv] 34 (0, 0)) := by rw [← hW0]; exact new_block _ _
  have hr0 := hright W0 k0
  rw [hN] at a1 z0
  have c0 := cells_of_block a1 0 _ rfl
  have c1 := cells_of_block a1 1 _ rfl
  have c2 := cells_of_block a1 2 _ rfl
  have c3 := cells_of_block a1 3 _ rfl
  simp only [Nat.zero_add] at c0 c1 c2 c3
  have hNl : N < W0.heap.size := by omega
  have hNlw : w.heap.size < W0.heap.size := by omega
  clear hh hb hr hs hright
  have XhErr := Lib.hid hErr
  have XhD := Lib.hid hD
  have Xhparts := Lib.hid hparts
  have Xheb := Lib.hid heb
  have Xhes := Lib.hid hes
  have Xhusable := Lib.hid husable
  have Xhbr := Lib.hid hbr
  have Xhbu := Lib.hid hbu
  have XhN := Lib.hid hN
  have XhW0 := Lib.hid hW0
  have Xk0 := Lib.hid k0
  have Xa1 := Lib.hid a1
  have Xhr0 := Lib.hid hr0
  have Xhl := Lib.hid hl
  clear hErr hD hparts heb hes husable hbr hbu hN hW0 k0 a1 hr0 hl
  cases br
  · go_enter Try.func18, Try.ntmps18
    go_wp2_with fail
    rw [XhW0.out]
    refine Xhr0.out.mono ?_
    rintro e W1 ⟨rfl, k1⟩
    go_wp2_with fail
    refine bodyPost_ret (results_tmp2 rfl _ _ _) rfl ?_
    exact ⟨_, by rw [XhErr.out]; rfl, by rw [XhD.out]; exact World.ownsRow_nil _ _ _ _, Xk0.out.trans (k1.mono fun b _ h => by omega)⟩
  · cases bu
    · go_enter Try.func18, Try.ntmps18
      go_wp2_with fail
      rw [XhW0.out]
      refine Xhr0.out.mono ?_
      rintro e W1 ⟨rfl, k1⟩
      have kk : Keep (fun b => b < w.heap.size) w W1 := Xk0.out.trans (k1.mono fun b _ h => by omega)
      have hu1 := Xhusable.out W1 kk
      clear k1
      have Xkk := Lib.hid kk
      have Xhu1 := Lib.hid hu1
      clear kk hu1
      go_wp2_with fail
      refine Xhu1.out.mono ?_
      rintro e W2 ⟨rfl, k2⟩
      go_wp2_with fail
      refine bodyPost_ret (results_tmp2 rfl _ _ _) rfl ?_
      exact ⟨_, by rw [XhErr.out]; rfl, by rw [XhD.out]; exact World.ownsRow_nil _ _ _ _, Xkk.out.trans (k2.mono fun b _ h => by have := Xkk.out.size; omega)⟩
    · have hmk := fun u => run_makeFloats ss.length hls u
      go_enter Try.func18, Try.ntmps18
      go_wp2_with fail
      rw [XhW0.out, XhN.out]
      refine Xhr0.out.mono ?_
      rintro e W1 ⟨rfl, k1⟩
      have hz1 := k1.size
      have kk : Keep (fun b => b < w.heap.size) w W1 := Xk0.out.trans (k1.mono fun b _ h => by omega)
      have hu1 := Xhusable.out W1 kk
      have a2 := k1.heap Xa1.out hNl
      have hNl1 : N < W1.heap.size := by omega
      clear k1
      have Xkk := Lib.hid kk
      have Xhu1 := Lib.hid hu1
      have Xa2 := Lib.hid a2
      clear kk hu1 a2
      go_wp2_with fail
      refine Xhu1.out.mono ?_
      rintro e W2 ⟨rfl, k2⟩
      have hz2 := k2.size
      have a3 := k2.heap Xa2.out hNl1
      have e3 := cells_of_block a3 3 _ rfl
      simp only [Nat.zero_add] at e3
      have hNl2 : N < W2.heap.size := by omega
      have kk2 : Keep (fun b => b < w.heap.size) w W2 := Xkk.out.trans (k2.mono fun b _ h => by have := Xkk.out.size; omega)
      clear c0 c1 c2 c3 k2
      have Xa3 := Lib.hid a3
      have Xkk2 := Lib.hid kk2
      clear a3 kk2
      go_wp2_with fail
      refine wp_abs (fun W => Keep (fun b => b < W2.heap.size) W2 W ∧ W.heap.size = W2.heap.size + 1 ∧ W.heap[W2.heap.size]? = some (.cells (List.replicate ss.length (Value.float .f64 0)).toArray 49 (0, 0)))
        ⟨Keep.alloc _ _ _, by simp, by rw [floats_eq]; exact new_block _ _⟩ ?_
      rintro W3 ⟨k3, z3, t3⟩
      have a4 := k3.heap Xa3.out hNl2
      have kk3 : Keep (fun b => b < w.heap.size) w W3 := Xkk2.out.trans (k3.mono fun b _ h => by have := Xkk2.out.size; omega)
      obtain ⟨T, hT⟩ : ∃ T, W2.heap.size = T := ⟨_, rfl⟩
      rw [hT] at z3 t3 ⊢
      have hNT : N < T := by omega
      clear hmk e3 k3 hT
      have Xt3 := Lib.hid t3
      have Xa4 := Lib.hid a4
      have Xkk3 := Lib.hid kk3
      clear t3 a4 kk3
      go_loopw [7, 23] (fun x7 i' wr => ∃ k : Nat, k ≤ ss.length ∧ i' = .int .i64 (k : Int) ∧ x7 = .float .f64 (rowAt body l ss k) ∧ Keep (fun b => b < T) W3 wr ∧ wr.heap[T]? = some (.cells ((rowsL body l ss k).map (Value.float .f64) ++ List.replicate (ss.length - k) (Value.float .f64 0)).toArray 49 (0, 0))) (fun _ i _ => ss.length - (intOf i).toNat)
      case atStart => exact ⟨0, by omega, rfl, rfl, Keep.refl _ _, Xt3.out⟩
      case round =>
        obtain ⟨k, hk, rfl, rfl, hK, hTc⟩ := hrel
        have hsz := hK.size
        have a5 := hK.heap Xa4.out hNT
        have c2 := cells_of_block a5 2 _ rfl
        simp only [Nat.zero_add] at c2
        have hNw : N < wr.heap.size := by omega
        have kw : Keep (fun b => b < N) w wr := (Xkk3.out.mono fun b _ h => by have := XhN.out; omega).trans (hK.mono fun b _ h => by omega)
        have hTl := heap_lt hTc
        by_cases hlt : k < ss.length
        · have hlt1 : (k : Int) < ss.length := by omega
          have hk0 : (0 : Int) ≤ k := by omega
          obtain ⟨x, hx⟩ : ∃ x, ss[k]? = some x := ⟨_, List.getElem?_eq_getElem hlt⟩
          obtain ⟨b8, o8, rfl, hb8, bv, nv, hcl, hbv, hnv⟩ := Xhes.out k x hx
          obtain ⟨hform, hlen, hpl⟩ := Xhparts.out (by trivial)
          obtain ⟨hx0, hx1, hxb⟩ := hpl k x hx
          have hgs : ss.getD k default = x := by rw [List.getD_eq_getElem?_getD, hx]; rfl
          obtain ⟨n2, bd, nw⟩ := x
          simp only at hx0 hx1 hxb hcl hbv hnv
          obtain ⟨i, rfl⟩ : ∃ i : Nat, n2 = i := ⟨n2.toNat, by omega⟩
          obtain ⟨abv, cbv, rfl, hlbv, -, -⟩ := id hbv
          obtain ⟨anv, cnv, rfl, hlnv, -, -⟩ := id hnv
          have d0 := kw.cell (hcl 0 _ rfl) (show b8 < N by have := XhN.out; omega)
          have d1 := kw.cell (hcl 1 _ rfl) (show b8 < N by have := XhN.out; omega)
          have d2 := kw.cell (hcl 2 _ rfl) (show b8 < N by have := XhN.out; omega)
          simp only [Nat.add_zero] at d0
          have hb8w : b8 < wr.heap.size := by have := XhN.out; omega
          obtain ⟨L, hL⟩ : ∃ L, body[i]? = some L := ⟨_, List.getElem?_eq_getElem (by omega)⟩
          have hkd := formed_kind hform (List.mem_of_getElem? hL)
          have hgd : body.getD i default = L := by rw [List.getD_eq_getElem?_getD, hL]; rfl
          obtain ⟨b4, o4, rfl, hb4, sa, hcl4, hsa⟩ := Xheb.out i L hL
          obtain ⟨asa, csa, rfl, hlx, -, -⟩ := id hsa
          obtain ⟨D, hD'⟩ : ∃ D, wr.heap.size = D := ⟨_, rfl⟩
          obtain ⟨W5, hW5⟩ : ∃ W5, wr.alloc (.cells #[.int .i64 (i : Int), .slice abv bd.length cbv, .slice anv nw.length cnv] 73) = W5 := ⟨_, rfl⟩
          have k5 : Keep (fun _ => True) wr W5 := by rw [← hW5]; exact Keep.alloc _ _ _
          have z5 : W5.heap.size = wr.heap.size + 1 := by rw [← hW5]; simp
          have bD := new_block wr (.cells #[.int .i64 (i : Int), .slice abv bd.length cbv, .slice anv nw.length cnv] 73)
          rw [hW5, hD'] at bD
          have kw5 : Keep (fun b => b < N) w W5 := kw.trans (k5.mono fun _ _ _ => trivial)
          have g : ∀ j v, (litCells L (.slice asa L.atom.args.length csa))[j]? = some v → W5.cell? ⟨b4, o4 + i * 7 + j, none⟩ = some v := fun j v h => kw5.cell (hcl4 j v h) (show b4 < N by have := XhN.out; omega)
          have m0 := g 0 _ rfl
          have m1 := g 1 _ rfl
          have m2 := g 2 _ rfl
          have m3 := g 3 _ rfl
          have m4 := g 4 _ rfl
          have m5 := g 5 _ rfl
          have m6 := g 6 _ rfl
          simp only [Nat.add_zero] at m0
          have hb4w : b4 < W5.heap.size := by have := XhN.out; omega
          have e2 := k5.cell c2 trivial
          have p0 := cells_of_block bD 0 _ rfl
          have p1 := cells_of_block bD 1 _ rfl
          have p2 := cells_of_block bD 2 _ rfl
          simp only [Nat.zero_add] at p0 p1 p2
          have hi0 : (0 : Int) ≤ i := by omega
          have hDl : D < W5.heap.size := heap_lt bD
          have hNl5 : N < W5.heap.size := by omega
          have hra := rowAt_le (ls := body) (ss := ss) Xhbu.out k
          have hrs : rowAt body l ss (k + 1) = behindD (rowAt body l ss k) L bd l := by
            show behindD (rowAt body l ss k) (body.getD (ss.getD k default).lit.toNat default) (ss.getD k default).bound l = _
            rw [hgs]
            simp only [Int.toNat_natCast]
            rw [hgd]
          have hbh := behind_any n (rowAt body l ss k) hra L (.slice asa L.atom.args.length csa) ⟨(i : Int), bd, nw⟩ (.slice abv bd.length cbv) (.slice anv nw.length cnv) l (.slice asl l.length csl) Xhbu.out hxb hkd W5.drew ⟨_, _, _, rfl⟩ ⟨_, _, _, rfl⟩
            (Xhl.out.keep ((kw5.trans (Keep.drew _ _)).mono fun b _ h => by have := XhN.out; omega)) (ints_kept hbv ((kw5.trans (Keep.drew _ _)).mono fun b _ h => by have := XhN.out; omega)) (by have := XhN.out; simp; omega)
          unfold litV stepV at hbh
          simp only at hbh
          obtain ⟨ra, hrae⟩ : ∃ ra, rowAt body l ss k = ra := ⟨_, rfl⟩
          rw [hrae] at hbh hrs hra ⊢
          obtain ⟨rb, hrbe⟩ : ∃ rb, behindD ra L bd l = rb := ⟨_, rfl⟩
          rw [hrbe] at hbh hrs
          clear hcl hx hgs a5 g hcl4 hsa hL hform hlen hpl hgd hbv hnv c2 hrae hrbe hkd hxb
          have XhK := Lib.hid hK
          have XhTc := Lib.hid hTc
          have Xkw := Lib.hid kw
          have XhW5 := Lib.hid hW5
          have Xk5 := Lib.hid k5
          have XbD := Lib.hid bD
          have Xkw5 := Lib.hid kw5
          have Xhbh := Lib.hid hbh
          have Xhrs := Lib.hid hrs
          have XhD' := Lib.hid hD'
          clear hK hTc kw hW5 k5 bD kw5 hbh hrs hD'
          go_wp2_with fail
          rw [XhW5.out, XhD'.out]
          go_region_held3 (fun W => W.cell? ⟨b4, o4 + i * 7, none⟩ = some (.int .i64 L.kind) ∧ W.cell? ⟨b4, o4 + i * 7 + 1, none⟩ = some (.string L.atom.pred) ∧ W.cell? ⟨b4, o4 + i * 7 + 2, none⟩ = some (.slice asa L.atom.args.length csa) ∧ W.cell? ⟨b4, o4 + i * 7 + 3, none⟩ = some (.bool L.left.var) ∧ W.cell? ⟨b4, o4 + i * 7 + 4, none⟩ = some (.string L.left.text) ∧ W.cell? ⟨b4, o4 + i * 7 + 5, none⟩ = some (.bool L.right.var) ∧ W.cell? ⟨b4, o4 + i * 7 + 6, none⟩ = some (.string L.right.text) ∧
              W.cell? ⟨D, 0, none⟩ = some (.int .i64 (i : Int)) ∧ W.cell? ⟨D, 1, none⟩ = some (.slice abv bd.length cbv) ∧ W.cell? ⟨D, 2, none⟩ = some (.slice anv nw.length cnv) ∧ W.cell? ⟨N, 2, none⟩ = some (.slice (some ⟨b4, o4, none⟩) body.length cb))
            (first | (refine ⟨?_, ?_, ?_, ?_, ?_, ?_, ?_, ?_, ?_, ?_, ?_⟩ <;> assumption) | go_keep)
            ((go_at_call 40; refine Xhbh.out.mono ?_; rintro e w2 ⟨rfl, hp⟩; have n0' := hp.cell m0 (by simp; omega); have n1' := hp.cell m1 (by simp; omega); have n2' := hp.cell m2 (by simp; omega); have n3' := hp.cell m3 (by simp; omega); have n4' := hp.cell m4 (by simp; omega); have n5' := hp.cell m5 (by simp; omega); have n6' := hp.cell m6 (by simp; omega); have p0' := hp.cell p0 (by simp; omega); have p1' := hp.cell p1 (by simp; omega); have p2' := hp.cell p2 (by simp; omega); have e2' := hp.cell e2 (by simp; omega); have zp := hp.size; simp only [World.size_drew] at zp; clear m0 m1 m2 m3 m4 m5 m6 e2 p0 p1 p2))
          have k52 : Keep (fun b => b < wr.heap.size) wr w2 := (Xk5.out.mono fun _ _ _ => trivial).trans ((Keep.drew _ _).trans (hp.mono fun b _ h => by simp; omega))
          have hT2 := k52.heap XhTc.out hTl
          have hclen : k < ((rowsL body l ss k).map (Value.float .f64) ++ List.replicate (ss.length - k) (Value.float .f64 0)).length := by rw [List.length_append, List.length_map, rowsL_len, List.length_replicate]; omega
          have tc := cells_of_block hT2 k _ (List.getElem?_eq_getElem hclen)
          have tf := box_free hT2 k
          rw [Nat.zero_add] at tc
          have hTl2 := heap_lt hT2
          have hT3 := set_at k (.float .f64 rb) hT2
          obtain ⟨W6, hW6⟩ : ∃ W6, w2.setCell ⟨T, k, none⟩ (.float .f64 rb) = W6 := ⟨_, rfl⟩
          have k6 : Keep (fun b => b ≠ T) w2 W6 := by rw [← hW6]; exact Keep.setCell _ _ _ (by simp)
          have hset := set_mid ((rowsL body l ss k).map (Value.float .f64)) k (.float .f64 rb) (.float .f64 0) (by rw [List.length_map, rowsL_len]) (ss.length - (k + 1))
          rw [show ss.length - (k + 1) + 1 = ss.length - k by omega] at hset
          rw [hW6, List.setIfInBounds_toArray, hset] at hT3
          rw [show (rowsL body l ss k).map (Value.float .f64) ++ [Value.float .f64 rb] = (rowsL body l ss (k + 1)).map (Value.float .f64) from by rw [rowsL_succ, List.map_append, Xhrs.out]; rfl] at hT3
          have hK6 : Keep (fun b => b < T) W3 W6 := (XhK.out.trans (k52.mono fun b _ h => by omega)).trans (k6.mono fun b _ h => by omega)
          clear hp k52 hT2 k6 hset n0' n1' n2' n3' n4' n5' n6' p0' p1' p2' e2' d0 d1 d2
          have XhT3 := Lib.hid hT3
          have XhK6 := Lib.hid hK6
          have XhW6 := Lib.hid hW6
          clear hT3 hK6 hW6
          go_wp2_with fail
          rw [XhW6.out]
          go_roundw
          case rel => exact ⟨k + 1, by omega, by go_num, by rw [Xhrs.out], XhK6.out, XhT3.out⟩
          case measure => simp [intOf]; omega
        · obtain rfl : k = ss.length := by omega
          rw [Nat.sub_self, List.replicate_zero, List.append_nil] at hTc
          have hDe : rowsD ⟨⟨⟨pr, args⟩, body⟩, ss⟩ l = rowsL body l ss ss.length := by rw [XhD.out]; rfl
          clear a5
          have XhK := Lib.hid hK
          have XhTc := Lib.hid hTc
          have Xkw := Lib.hid kw
          have XhDe := Lib.hid hDe
          clear hK hTc kw hDe
          go_wp2_with fail
          refine bodyPost_ret (results_tmp2 rfl _ _ _) rfl ?_
          have hNe := XhN.out
          refine ⟨_, by rw [XhErr.out]; rfl, ?_, Xkw.out.mono fun b _ h => by omega⟩
          rw [XhDe.out, rowsL_len]
          exact ⟨by rw [List.length_map, rowsL_len]; omega, .inr ⟨T, ss.length, _, rfl, by omega, XhTc.out, Nat.le_refl _, by simp only [maxLen]; omega, by simp [rowsL_len], by rw [Nat.mul_one]; exact List.take_of_length_le (by rw [List.length_map, rowsL_len]; exact Nat.le_refl _)⟩⟩
end Go.Proofs

/- Layer 16 (plan): the law's own small things: term, pos, small, sizes. -/
namespace Go.Proofs
open Go.RowKit Go.Ink Go.Flt
set_option linter.unusedVariables false
set_option linter.unusedSimpArgs false
attribute [local go_sem] Oper.semAt_some

def termOf (s : ByteArray) : TermD := ⟨decide (headC s < 97), s⟩
set_option maxRecDepth 100000 in
theorem lawTerm_any (s : ByteArray) (hs : 0 < s.size) (w : World) : Calls Try.prog 62 #[.string s] w fun e w' => e = .returned (termV (termOf s)) ∧ Keep (fun _ => True) w w' := by
  have hh := head_at hs
  unfold termV termOf
  simp only
  have h0 : (0 : Int) < s.size := by omega
  obtain ⟨c, hc⟩ : ∃ c, headC s = c := ⟨_, rfl⟩
  rw [hc] at hh ⊢
  have hix : ∀ w, (Instr.index 9 (.string s) (.int .i64 0)).run Try.prog w = .ok (.int .u8 c) w := fun w => by
    have hg : s[0]? = some (s[0]) := by simp [hs]
    simp [Instr.index, asIntOf, run_underlying Try.underlying9, hg, hh]
  clear hc
  have Xhh := Lib.hid hh
  clear hh
  go_enter Try.func62, Try.ntmps62
  go_wp2_with fail
  refine bodyPost_ret (v := .agg #[.bool (decide (c < 97)), .string s]) (by simp [results, Try.results62, go_sem]) rfl ?_
  exact ⟨rfl, Keep.alloc _ _ _⟩
end Go.Proofs
