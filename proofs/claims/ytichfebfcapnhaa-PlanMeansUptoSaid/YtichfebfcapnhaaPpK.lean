/- Layer 16 (plan): the rows behind each step: the document's. -/
import Derived.Test.YtichfebfcapnhaaProg
import Derived.Test.YtichfebfcapnhaaPpJ
import Derived.Test.YtichfebfcapnhaaPnZToPoA
import Derived.Test.YtichfebfcapnhaaPnP
import Derived.Deep.RegionHeld3
namespace Go.Proofs
open Go.RowKit Go.Ink Go.Flt
set_option linter.unusedVariables false
set_option linter.unusedSimpArgs false
attribute [local go_sem] Oper.semAt_some
attribute [local go_sem] run_store_float

theorem el_floats : ElemOf Try.prog 44 49 1 8 := elem_of (z := .float .f64 0) (by kernel_rfl) (by kernel_rfl) rfl (by decide) (by decide)

set_option maxRecDepth 100000 in
set_option maxHeartbeats 2000000 in
theorem refrows_any (n : Nat) (p : PlanD) (vh vb vs : Value) (l : List SizeD) (sv : Value) (hR : rightB p = true) (hU : usableB l = true) (w : World) (hp : PlanIn n w vh vb vs p) (hl : SizesIn n w sv l) (hn : n ≤ w.heap.size) :
    Calls Try.prog 51 #[planV p vh vb vs, sv] w fun e w' => ∃ v, e = .returned v ∧ w'.ownsRow w.heap.size 49 1 v p.steps.length ((rowsL p.rule.body l p.steps p.steps.length).map (.float .f64)) ∧ Keep (fun b => b < w.heap.size) w w' := by
  have hparts := right_parts hR
  obtain ⟨hr, hs⟩ := hp
  obtain ⟨⟨⟨pr, args⟩, body⟩, ss⟩ := p
  unfold planV at *
  simp only at hr hs hparts ⊢
  obtain ⟨hform, hlen, hpl⟩ := hparts
  obtain ⟨hh, hb⟩ := id hr
  simp only at hh hb
  obtain ⟨aa, ca, rfl, hla, -, -⟩ := id hh
  obtain ⟨ab, cb, rfl, hlb, hcb, heb⟩ := id hb
  obtain ⟨asv, csv, rfl, hls, hcs, hes⟩ := id hs
  obtain ⟨asl, csl, rfl, -, -, -⟩ := id hl
  obtain ⟨N, hN⟩ : ∃ N, w.heap.size = N := ⟨_, rfl⟩
  obtain ⟨W0, hW0⟩ : ∃ W0, w.alloc (.cells #[.string pr, .slice aa args.length ca, .slice ab body.length cb, .slice asv ss.length csv] 34) = W0 := ⟨_, rfl⟩
  have k0 : Keep (fun b => b < w.heap.size) w W0 := by rw [← hW0]; exact Keep.alloc _ _ _
  have z0 : W0.heap.size = w.heap.size + 1 := by rw [← hW0]; simp
  have a1 : W0.heap[w.heap.size]? = some (.cells #[.string pr, .slice aa args.length ca, .slice ab body.length cb, .slice asv ss.length csv] 34 (0, 0)) := by rw [← hW0]; exact new_block _ _
  rw [hN] at a1 z0
  have hNl : N < W0.heap.size := by omega
  clear hh hb hr hs hR
  have Xhform := Lib.hid hform
  have Xhpl := Lib.hid hpl
  have Xhlen := Lib.hid hlen
  have Xheb := Lib.hid heb
  have Xhes := Lib.hid hes
  have XhN := Lib.hid hN
  have XhW0 := Lib.hid hW0
  have Xk0 := Lib.hid k0
  have Xa1 := Lib.hid a1
  have Xhl := Lib.hid hl
  have XhU := Lib.hid hU
  clear hform hpl hlen heb hes hN hW0 k0 a1 hl hU
  go_enter Try.func51, Try.ntmps51
  go_wp2_with fail
  rw [XhW0.out, XhN.out]
  go_loopw [5, 6, 7] (fun x5 x6 i' wr => ∃ k : Nat, k ≤ ss.length ∧ i' = .int .i64 (k : Int) ∧ x6 = .float .f64 (rowAt body l ss k) ∧ Keep (fun b => b < N + 1) W0 wr ∧ wr.ownsRow (N + 1) 49 1 x5 k ((rowsL body l ss k).map (.float .f64))) (fun _ _ i _ => ss.length - (intOf i).toNat)
  case atStart => exact ⟨0, by omega, rfl, rfl, Keep.refl _ _, World.ownsRow_nil _ _ _ _⟩
  case round =>
    obtain ⟨k, hk, rfl, rfl, hK, ho⟩ := hrel
    have hsz := hK.size
    have a5 := hK.heap Xa1.out (show N < N + 1 by omega)
    have c2 := cells_of_block a5 2 _ rfl
    have c3 := cells_of_block a5 3 _ rfl
    simp only [Nat.zero_add] at c2 c3
    have hNw : N < wr.heap.size := by omega
    have kw : Keep (fun b => b < N) w wr := (Xk0.out.mono fun b _ h => by have := XhN.out; omega).trans (hK.mono fun b _ h => by omega)
    by_cases hlt : k < ss.length
    · have hlt1 : (k : Int) < ss.length := by omega
      have hk0 : (0 : Int) ≤ k := by omega
      obtain ⟨x, hx⟩ : ∃ x, ss[k]? = some x := ⟨_, List.getElem?_eq_getElem hlt⟩
      obtain ⟨b8, o8, rfl, hb8, bv, nv, hcl, hbv, hnv⟩ := Xhes.out k x hx
      obtain ⟨hx0, hx1, hxb⟩ := Xhpl.out k x hx
      have hgs : ss.getD k default = x := by rw [List.getD_eq_getElem?_getD, hx]; rfl
      obtain ⟨n2, bd, nw⟩ := x
      simp only at hx0 hx1 hxb hcl hbv hnv
      obtain ⟨i, rfl⟩ : ∃ i : Nat, n2 = i := ⟨n2.toNat, by omega⟩
      obtain ⟨abv, cbv, rfl, hlbv, -, -⟩ := id hbv
      obtain ⟨anv, cnv, rfl, hlnv, -, -⟩ := id hnv
      have d0 := kw.cell (hcl 0 _ rfl) (show b8 < N by have := XhN.out; omega)
      have d1 := kw.cell (hcl 1 _ rfl) (show b8 < N by have := XhN.out; omega)
      have d2 := kw.cell (hcl 2 _ rfl) (show b8 < N by have := XhN.out; omega)
      simp only [Nat.add_zero] at d0
      have hb8w : b8 < wr.heap.size := by have := XhN.out; omega
      obtain ⟨L, hL⟩ : ∃ L, body[i]? = some L := ⟨_, List.getElem?_eq_getElem (by omega)⟩
      have hkd := formed_kind Xhform.out (List.mem_of_getElem? hL)
      have hgd : body.getD i default = L := by rw [List.getD_eq_getElem?_getD, hL]; rfl
      obtain ⟨b4, o4, rfl, hb4, sa, hcl4, hsa⟩ := Xheb.out i L hL
      obtain ⟨asa, csa, rfl, hlx, -, -⟩ := id hsa
      have g : ∀ j v, (litCells L (.slice asa L.atom.args.length csa))[j]? = some v → wr.cell? ⟨b4, o4 + i * 7 + j, none⟩ = some v := fun j v h => kw.cell (hcl4 j v h) (show b4 < N by have := XhN.out; omega)
      have m0 := g 0 _ rfl
      have m1 := g 1 _ rfl
      have m2 := g 2 _ rfl
      have m3 := g 3 _ rfl
      have m4 := g 4 _ rfl
      have m5 := g 5 _ rfl
      have m6 := g 6 _ rfl
      simp only [Nat.add_zero] at m0
      have hb4w : b4 < wr.heap.size := by have := XhN.out; omega
      have hi0 : (0 : Int) ≤ i := by omega
      have hra := rowAt_le (ls := body) (ss := ss) XhU.out k
      have hrs : rowAt body l ss (k + 1) = behindD (rowAt body l ss k) L bd l := by
        show behindD (rowAt body l ss k) (body.getD (ss.getD k default).lit.toNat default) (ss.getD k default).bound l = _
        rw [hgs]
        simp only [Int.toNat_natCast]
        rw [hgd]
      have hbh := refBehind_any n (rowAt body l ss k) hra L (.slice asa L.atom.args.length csa) ⟨(i : Int), bd, nw⟩ (.slice abv bd.length cbv) (.slice anv nw.length cnv) l (.slice asl l.length csl) XhU.out hxb wr.drew ⟨_, _, _, rfl⟩ ⟨_, _, _, rfl⟩
        (Xhl.out.keep ((kw.trans (Keep.drew _ _)).mono fun b _ h => by have := XhN.out; omega)) (ints_kept hbv ((kw.trans (Keep.drew _ _)).mono fun b _ h => by have := XhN.out; omega)) (by have := XhN.out; simp; omega)
      unfold litV stepV at hbh
      simp only at hbh
      obtain ⟨ra, hrae⟩ : ∃ ra, rowAt body l ss k = ra := ⟨_, rfl⟩
      rw [hrae] at hbh hrs hra ⊢
      obtain ⟨rb, hrbe⟩ : ∃ rb, behindD ra L bd l = rb := ⟨_, rfl⟩
      rw [hrbe] at hbh hrs
      clear hcl hx hgs a5 g hcl4 hsa hL hgd hbv hnv hrae hrbe hkd hxb
      have XhK := Lib.hid hK
      have Xho := Lib.hid ho
      have Xkw := Lib.hid kw
      have Xhbh := Lib.hid hbh
      have Xhrs := Lib.hid hrs
      clear hK ho kw hbh hrs
      go_wp2_with fail
      go_region_held3 (fun W => W.cell? ⟨b4, o4 + i * 7, none⟩ = some (.int .i64 L.kind) ∧ W.cell? ⟨b4, o4 + i * 7 + 1, none⟩ = some (.string L.atom.pred) ∧ W.cell? ⟨b4, o4 + i * 7 + 2, none⟩ = some (.slice asa L.atom.args.length csa) ∧ W.cell? ⟨b4, o4 + i * 7 + 3, none⟩ = some (.bool L.left.var) ∧ W.cell? ⟨b4, o4 + i * 7 + 4, none⟩ = some (.string L.left.text) ∧ W.cell? ⟨b4, o4 + i * 7 + 5, none⟩ = some (.bool L.right.var) ∧ W.cell? ⟨b4, o4 + i * 7 + 6, none⟩ = some (.string L.right.text) ∧
          W.cell? ⟨b8, o8 + k * 3, none⟩ = some (.int .i64 (i : Int)) ∧ W.cell? ⟨b8, o8 + k * 3 + 1, none⟩ = some (.slice abv bd.length cbv) ∧ W.cell? ⟨b8, o8 + k * 3 + 2, none⟩ = some (.slice anv nw.length cnv) ∧ W.cell? ⟨N, 2, none⟩ = some (.slice (some ⟨b4, o4, none⟩) body.length cb) ∧ W.cell? ⟨N, 3, none⟩ = some (.slice (some ⟨b8, o8, none⟩) ss.length csv))
        (first | (refine ⟨?_, ?_, ?_, ?_, ?_, ?_, ?_, ?_, ?_, ?_, ?_, ?_⟩ <;> assumption) | go_keep)
        ((go_at_call 46; refine Xhbh.out.mono ?_; rintro e w2 ⟨rfl, hp⟩; have n0' := hp.cell m0 (by simp; omega); have n1' := hp.cell m1 (by simp; omega); have n2' := hp.cell m2 (by simp; omega); have n3' := hp.cell m3 (by simp; omega); have n4' := hp.cell m4 (by simp; omega); have n5' := hp.cell m5 (by simp; omega); have n6' := hp.cell m6 (by simp; omega); have p0' := hp.cell d0 (by simp; omega); have p1' := hp.cell d1 (by simp; omega); have p2' := hp.cell d2 (by simp; omega); have e2' := hp.cell c2 (by simp; omega); have e3' := hp.cell c3 (by simp; omega); have zp := hp.size; simp only [World.size_drew] at zp; clear m0 m1 m2 m3 m4 m5 m6 c2 c3 d0 d1 d2))
      have k52 : Keep (fun b => b < wr.heap.size) wr w2 := (Keep.drew _ _).trans (hp.mono fun b _ h => by simp; omega)
      have ho2 := own_kept Xho.out k52 (fun b hb => (World.ownsRow.lt Xho.out b hb).2)
      obtain ⟨v', W3, hr3, ho3, hk3, g, cap, hv3, hg3, hl3'⟩ := app1 (P := Try.prog) el_floats 44 ho2 [.float .f64 rb] rfl (by simp [Value.oneCell']) (by omega) (by omega)
      subst hv3
      rw [show (rowsL body l ss k).map (Value.float .f64) ++ [Value.float .f64 rb] = (rowsL body l ss (k + 1)).map (Value.float .f64) from by rw [rowsL_succ, List.map_append, Xhrs.out]; rfl] at ho3
      have hK3 : Keep (fun b => b < N + 1) W0 W3 := (XhK.out.trans (k52.mono fun b _ h => by omega)).trans (hk3.mono fun b _ h e => by have := (World.ownsRow.lt Xho.out b e.symm).1; omega)
      clear hp k52 ho2 n0' n1' n2' n3' n4' n5' n6' p0' p1' p2' e2' e3' hk3
      have Xhr3 := Lib.hid hr3
      have Xho3 := Lib.hid ho3
      have XhK3 := Lib.hid hK3
      clear hr3 ho3 hK3
      go_wp2_with (at_builtin; refine go_app (v := u5) (u := .slice (some ⟨w2.heap.size, 0, none⟩) 1 1) (v' := .slice (some ⟨g, 0, none⟩) (k + 1) cap) (w' := W3) rfl (.tmp 34) (.tmp 36) 44 rfl rfl rfl Xhr3.out ?_)
      go_roundw
      case rel => exact ⟨k + 1, by omega, by go_num, by rw [Xhrs.out], XhK3.out, Xho3.out⟩
      case measure => simp [intOf]; omega
    · obtain rfl : k = ss.length := by omega
      obtain ⟨av, cv, rfl⟩ := own_form ho
      clear a5
      have XhK := Lib.hid hK
      have Xho := Lib.hid ho
      have Xkw := Lib.hid kw
      clear hK ho kw
      go_wp2_with fail
      go_ret
      have hNe := XhN.out
      exact ⟨_, rfl, Xho.out.mono (by omega), Xkw.out.mono fun b _ h => by omega⟩
end Go.Proofs
