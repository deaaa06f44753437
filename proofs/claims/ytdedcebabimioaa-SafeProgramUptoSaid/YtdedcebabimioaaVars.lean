/- safe.Vars and what it is made of. -/
import Derived.Test.YtdedcebabimioaaProg
import Derived.Test.YtdedcebabimioaaOwn
import Derived.Test.YtdedcebabimioaaStands
namespace Go.Proofs
open Go.RowKit Go.Ink
set_option linter.unusedVariables false
set_option linter.unusedSimpArgs false
attribute [local go_sem] Oper.semAt_some

theorem el_strs : ElemOf Try.prog 56 9 1 16 := elem_of (z := .string ⟨#[]⟩) (by kernel_rfl) (by kernel_rfl) rfl (by decide) (by decide)

theorem stands_any (r : RuleD) (ah : Option Addr) (nh ch : Nat) (ab : Option Addr) (nb cb : Nat) (w : World) : Calls Try.prog 24 #[.agg #[.string r.head.pred, .slice ah nh ch, .slice ab nb cb]] w fun e w' =>
    e = .returned (.func (.func 35) #[] #[.pointer (some ⟨w.heap.size, 0, none⟩)]) ∧ w' = w.alloc (.cells (ruleCells r (.slice ah nh ch) (.slice ab nb cb)).toArray 27) := by
  go_enter Try.func24, Try.ntmps24
  go_wp2
  go_ret
  exact ⟨rfl, rfl⟩

/-- what a loop that collects names has come to: the slice's box, the map's box, the map -/
structure CollectSt (B n1 Bo Bm M : Nat) (w : World) (O : Nat → Prop) (ss : List ByteArray) (W : World) : Prop where
  own : ∃ v, W.heap[Bo]? = some (.cells #[v] 56 (0, 0)) ∧ W.ownsRow n1 9 1 v ss.length (ss.map .string) ∧ ∀ b, v.ownBlock = some b → O b ∧ B ≤ b
  mbox : W.heap[Bm]? = some (.cells #[.map (some M)] 67 (0, 0))
  set : SetIn W M ss
  old : Keep (fun k => k < n1) w W

theorem CollectSt.keep {B n1 Bo Bm M : Nat} {w : World} {O : Nat → Prop} {ss : List ByteArray} {W W' : World} {C : Nat → Prop} (h : CollectSt B n1 Bo Bm M w O ss W) (hK : Keep C W W')
    (ho : C Bo) (hm : C Bm) (hM : C M) (hO : ∀ b, O b → C b) (hn : ∀ b, b < n1 → C b) : CollectSt B n1 Bo Bm M w O ss W' := by
  obtain ⟨⟨v, h1, h2, h3⟩, h4, h5, h6⟩ := h
  exact ⟨⟨v, hK.heap h1 ho, own_kept h2 hK (fun b hb => hO b (h3 b hb).1), h3⟩, hK.heap h4 hm, h5.keep hK hM, h6.trans (hK.mono fun b _ hb => hn b hb)⟩

set_option maxRecDepth 100000 in
set_option maxHeartbeats 2000000 in
theorem vars_any (r : RuleD) (sh sb : Value) (w : World) (hr : RuleIn w.heap.size w sh sb r) (hN : r.stands.length ≤ 1073741824) :
    Calls Try.prog 17 #[.agg #[.string r.head.pred, sh, sb]] w fun e w' =>
      ∃ v, e = .returned v ∧ Keep (fun k => k < w.heap.size) w w' ∧ w'.ownsRow w.heap.size 9 1 v (onceL r.names).length ((onceL r.names).map .string) := by
  refine calls_of Try.func17 rfl ?_
  simp only [Try.ntmps17, List.size_toArray, List.length_cons, List.length_nil, Nat.reduceAdd, Nat.reduceSub, Array.replicate_succ, Array.replicate_zero, List.push_toArray, List.append_toArray, List.nil_append, List.cons_append]
  obtain ⟨⟨ah, capH, rfl, hlenh, hcaph, helh⟩, ⟨ab, capB, rfl, hlenb, hcapb, helb⟩⟩ := id hr
  have hmm := @run_makeMap Try.prog
  have Xhr := Lib.hid hr
  have Xhelh := Lib.hid helh
  have Xhelb := Lib.hid helb
  clear hr helh helb
  gi_wp2
  refine ⟨trivial, rfl, (callsIn_wide.2 (stands_any r _ _ _ _ _ _ _)).mono ?_⟩
  rintro e w' ⟨rfl, rfl⟩
  gi_wp2
  refine wpIn_abs (fun Wr => Keep (fun _ => True) w Wr ∧ Wr.heap.size = w.heap.size + 1 + 1 + 1 + 1 + 1 ∧ Wr.heap[w.heap.size + 1]? = some (.cells #[.slice none 0 0] 56 (0, 0)) ∧ Wr.heap[w.heap.size + 1 + 1]? = some (.map #[] 0) ∧
      Wr.heap[w.heap.size + 1 + 1 + 1]? = some (.cells #[.map (some (w.heap.size + 1 + 1))] 67 (0, 0)) ∧ Wr.heap[w.heap.size + 1 + 1 + 1 + 1]? = some (.cells (ruleCells r (.slice ah r.head.args.length capH) (.slice ab r.body.length capB)).toArray 27 (0, 0)))
    ⟨((((Keep.alloc _ _ _).trans (Keep.alloc _ _ _)).trans (Keep.alloc _ _ _)).trans (Keep.alloc _ _ _)).trans (Keep.alloc _ _ _), by simp, by simp only [alloc_get, World.size_alloc]; simp, by simp only [alloc_get, World.size_alloc]; simp, by simp only [alloc_get, World.size_alloc]; simp, by simp only [alloc_get, World.size_alloc]; simp⟩ ?_
  rintro Wr ⟨kW, sW, h1, h2, h3, h4⟩
  have hrW := Xhr.out
  refine range_outer (gf := 35) (lb := #[.pointer (some ⟨w.heap.size + 1 + 1 + 1 + 1, 0, none⟩)]) rfl (enters Try.func35 (by kernel_rfl) rfl)
    (stands1_iter w.heap.size (w.heap.size + 1 + 1 + 1 + 1) Wr r _ _ (terms_keep hrW.1 (kW.mono fun _ _ _ => trivial)) (lits_keep hrW.2 (kW.mono fun _ _ _ => trivial)) (by omega) (by omega)) (fun _ => rfl) (fun _ h => h.elim)
    ⟨h4, Keep.refl _ _⟩ (fun X Y hv hK => standsV_keep hv hK (fun k hk => by omega) (by omega))
    (fun k O X => CollectSt Wr.heap.size w.heap.size (w.heap.size + 1) (w.heap.size + 1 + 1 + 1) (w.heap.size + 1 + 1) w O (onceL (r.names.take k)) X)
    (fun c k O X => False) ?hI ?hIx ?h0 ?round ?done ?stop
  case hI =>
    intro k O X Y h hK
    exact h.keep hK (.inl ⟨by omega, fun h => h⟩) (.inl ⟨by omega, fun h => h⟩) (.inl ⟨by omega, fun h => h⟩) (fun b hb => .inr hb) (fun b hb => .inl ⟨by omega, fun h => h⟩)
  case hIx => intro c k O X Y h; exact h.elim
  case h0 => exact ⟨⟨_, h1, World.ownsRow_nil _ _ _ _, fun b hb => by simp [Value.ownBlock] at hb⟩, h3, ⟨#[], 0, h2, rfl⟩, kW.mono fun _ _ _ => trivial⟩
  case round =>
    intro lr k O X hBl hlX hOl hk hI hV hsz
    obtain ⟨s, hs⟩ : ∃ s, (r.stands.getD k default).2 = s := ⟨_, rfl⟩
    have hs' : r.names[k]? = some s := by simp [RuleD.names, ← hs, List.getD, List.getElem?_eq_getElem hk]
    rw [hs]
    clear h1 h2 h3 h4 kW hmm
    have XhI := Lib.hid hI
    have Xhs := Lib.hid hs
    have Xhs' := Lib.hid hs'
    have XhV := Lib.hid hV
    have Xhk := Lib.hid hk
    have XhOl := Lib.hid hOl
    have XhrW := Lib.hid hrW
    clear hI hs hs' hV hk hOl hrW
    gi_wp2
    refine ⟨Keep.refl _ _, fun Y hY hYs hYl => ?_⟩
    have hIY := XhI.out.keep hY (by omega) (by omega) (by omega) (fun b hb e => XhOl.out (e ▸ hb)) (fun b hb => by omega)
    have hVY := standsV_keep XhV.out hY (fun b hb => by omega) (by omega)
    obtain ⟨⟨v, c1, c2, c3⟩, c4, c5, c6⟩ := id hIY
    have d1 := box_cell c1
    have d1f := box_free c1 0
    have d2 := box_cell c4
    have hlk := run_lookup_set (P := Try.prog) (T := 67) (K := 9) (E := 4) Try.underlying67 Try.underlying9 (fun _ => by kernel_rfl) c5 s
    have htk : onceL (r.names.take (k + 1)) = if s ∈ onceL (r.names.take k) then onceL (r.names.take k) else onceL (r.names.take k) ++ [s] := by
      rw [← onceL_snoc, List.take_add_one, Xhs'.out]; rfl
    have hfin : ∀ (O' : Nat → Prop) (Z : World), (∀ b, O b → O' b) → (∀ b, O' b → O b ∨ (X.heap.size ≤ b ∧ b < Z.heap.size)) → Keep (fun b => Wr.heap.size ≤ b ∧ b < X.heap.size ∧ ¬ O b) Y Z → standsV w.heap.size (w.heap.size + 1 + 1 + 1 + 1) Wr (ruleCells r (.slice ah r.head.args.length capH) (.slice ab r.body.length capB)).toArray Z →
        CollectSt Wr.heap.size w.heap.size (w.heap.size + 1) (w.heap.size + 1 + 1 + 1) (w.heap.size + 1 + 1) w O' (onceL (r.names.take (k + 1))) Z →
        bodyEnd Wr.heap.size X.heap.size (standsV w.heap.size (w.heap.size + 1 + 1 + 1 + 1) Wr (ruleCells r (.slice ah r.head.args.length capH) (.slice ab r.body.length capB)).toArray) O Y Z (fun O' => CollectSt Wr.heap.size w.heap.size (w.heap.size + 1) (w.heap.size + 1 + 1 + 1) (w.heap.size + 1 + 1) w O' (onceL (r.names.take (k + 1))) Z) := fun O' Z a b c d e => ⟨O', a, b, c, d, e⟩
    by_cases hin : s ∈ onceL (r.names.take k)
    · have hin' : decide (s ∈ onceL (r.names.take k)) = true := by simpa using hin
      rw [hin'] at hlk
      rw [if_pos hin] at htk
      have hf := hfin O Y (fun _ h => h) (fun _ h => .inl h) (Keep.refl _ _) hVY (by rw [htk]; exact hIY)
      clear hfin hIY hVY c1 c2 c3 c4 c5 c6 htk hin hin' hY hYs hYl d1 d1f
      have Xhf := Lib.hid hf
      clear hf
      gi_wp2
      exact Xhf.out
    · have hin' : decide (s ∈ onceL (r.names.take k)) = false := by simpa using hin
      rw [hin'] at hlk
      rw [if_neg hin] at htk
      obtain ⟨W1, hr1, hs1, hk1, hz1⟩ := run_update_set (P := Try.prog) (T := 67) (K := 9) (E := 4) Try.underlying67 Try.underlying9 c5 s
      rw [if_neg hin] at hs1
      have e1 := hk1.heap c1 (by omega)
      have hYs2 : Y.heap.size = X.heap.size := hYs
      have e2 : W1.ownsRow w.heap.size 9 1 v (onceL (r.names.take k)).length ((onceL (r.names.take k)).map .string) := own_kept c2 hk1 (fun b hb => by have := (c3 b hb).2; omega)
      have d3 := box_cell e1
      have d3f := box_free e1 0
      have hlen1 : (onceL (r.names.take k)).length ≤ 1073741824 := by have := onceL_len (r.names.take k); have : r.names.length = r.stands.length := by simp [RuleD.names]
                                                                      simp at *; omega
      have hWs := c6.size
      obtain ⟨v2, W2, hr2, ho2, hk2, g2, cap2, hv2, hg2, hl2⟩ := app1 el_strs 56 e2 [.string s] rfl (by simp [Value.oneCell']) (by omega) (by omega)
      subst hv2
      have hnb : ∀ b, b < Wr.heap.size → some b ≠ v.ownBlock := fun b hb e => by have := (c3 b e.symm).2; omega
      have e4' := hk2.heap e1 (hnb _ (by omega))
      have e4 := box_cell e4'
      have e4f := box_free e4' 0
      have hZs : (W2.setCell ⟨w.heap.size + 1, 0, none⟩ (.slice (some ⟨g2, 0, none⟩) ((onceL (r.names.take k)).length + 1) cap2)).heap.size = W2.heap.size := by simp [World.setCell]
      have hg3 : O g2 ∨ X.heap.size ≤ g2 := hg2.imp (fun h => (c3 _ h).1) (fun h => by omega)
      have hg4 : Wr.heap.size ≤ g2 := hg2.elim (fun h => (c3 _ h).2) (fun h => by omega)
      have k3 : ∀ u, Keep (fun b => b ≠ w.heap.size + 1) W2 (W2.setCell ⟨w.heap.size + 1, 0, none⟩ u) := fun u => Keep.setCell _ _ _ (by simp)
      have kall : Keep (fun b => b ≠ w.heap.size + 1 ∧ b ≠ w.heap.size + 1 + 1 ∧ some b ≠ v.ownBlock) Y (W2.setCell ⟨w.heap.size + 1, 0, none⟩ (.slice (some ⟨g2, 0, none⟩) ((onceL (r.names.take k)).length + 1) cap2)) :=
        ((hk1.mono fun b _ h => h.2.1).trans (hk2.mono fun b _ h => h.2.2)).trans ((k3 _).mono fun b _ h => h.1)
      have hf := hfin (fun b => O b ∨ b = g2) (W2.setCell ⟨w.heap.size + 1, 0, none⟩ (.slice (some ⟨g2, 0, none⟩) ((onceL (r.names.take k)).length + 1) cap2)) (fun _ h => .inl h)
        (fun b h => h.elim .inl (fun e => by subst e; exact hg3.imp id (fun h => ⟨h, by omega⟩)))
        (kall.mono fun b _ h => ⟨by omega, by omega, fun e => h.2.2 (c3 b e.symm).1⟩)
        (standsV_keep hVY kall (fun b hb => ⟨by omega, by omega, hnb b (by omega)⟩) ⟨by omega, by omega, hnb _ (by omega)⟩)
        (by
          rw [htk]
          refine ⟨⟨_, set_box _ e4', ?_, fun b hb => ?_⟩, kall.heap c4 ⟨by omega, by omega, hnb _ (by omega)⟩, (hs1.keep hk2 (hnb _ (by omega))).keep (k3 _) (by omega), c6.trans (kall.mono fun b _ hb => ⟨by omega, by omega, hnb b (by omega)⟩)⟩
          · simp only [List.length_append, List.length_cons, List.length_nil, List.map_append, List.map_cons, List.map_nil, if_neg hin]
            exact own_kept ho2 (k3 _) (fun b hb => by simp [Value.ownBlock] at hb; omega)
          · simp only [Value.ownBlock, Option.some.injEq] at hb
            exact ⟨.inr hb.symm, by omega⟩)
      clear hfin hIY hVY c1 c2 c3 c4 c5 c6 htk hin hin' hY hYs hYl hs1 hk1 hz1 e2 ho2 hk2 hg2 e1 e4' kall k3 hnb hg3 hZs
      have Xhr2 := Lib.hid hr2
      have Xhf := Lib.hid hf
      clear hr2 hf
      gi_wp2_with (gi_at_builtin; refine gi_app rfl _ _ _ rfl rfl rfl Xhr2.out ?_)
      exact Xhf.out
  case done =>
    rintro D O W hD hOD hWD hsd hI hV
    have hall : r.names.take r.stands.length = r.names := List.take_of_length_le (by simp [RuleD.names])
    rw [hall] at hI
    obtain ⟨⟨v, c1, c2, c3⟩, c4, c5, c6⟩ := hI
    have d1 := box_cell c1
    clear h1 h2 h3 h4 kW hmm
    have Xc1 := Lib.hid c1
    have Xc2 := Lib.hid c2
    have Xc3 := Lib.hid c3
    have Xc4 := Lib.hid c4
    have Xc5 := Lib.hid c5
    have Xc6 := Lib.hid c6
    have XhV := Lib.hid hV
    have XhOD := Lib.hid hOD
    have XhWD := Lib.hid hWD
    have XhrW := Lib.hid hrW
    clear c1 c2 c3 c4 c5 c6 hV hOD hWD hrW
    gi_wp2
    refine leaves_mark XhWD.out (leaves_nil (results_tmp rfl _ _ _) ⟨v, rfl, ?_, ?_⟩)
    · exact Xc6.out.trans (Keep.putObj _ _ _ (by omega))
    · exact own_kept Xc2.out (Keep.putObj (C := fun b => b ≠ D) _ _ _ (by simp)) (fun b hb e => XhOD.out (e ▸ (Xc3.out b hb).1))
  case stop => intro D c k O W _ _ _ _ _ h; exact h.elim

end Go.Proofs
