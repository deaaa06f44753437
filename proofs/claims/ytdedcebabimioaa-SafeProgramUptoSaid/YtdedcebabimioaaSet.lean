/- safe.set, safe.Bound. -/
import Derived.Test.YtdedcebabimioaaProg
import Derived.Test.YtdedcebabimioaaVars
import Derived.Deep.Onto
namespace Go.Proofs
open Go.RowKit Go.Ink
set_option linter.unusedVariables false
set_option linter.unusedSimpArgs false
attribute [local go_sem] Oper.semAt_some

theorem run_makeMap_hint (n : Int) (w : World) : (Instr.makeMap 67 (some (.int .i64 n))).run Try.prog w = .ok (.map (some w.heap.size)) (w.alloc (.map #[] 0)) := by
  simp [Instr.makeMap, Sem.run_bind, run_underlying Try.underlying67, Result.andThen, asInt, asIntOf, run_newObj_alloc]

set_option maxRecDepth 100000 in
set_option maxHeartbeats 1000000 in
theorem set_any (n0 : Nat) (v : Value) (ss : List ByteArray) (w : World) (hs : StrsIn n0 w v ss) (hn : n0 ≤ w.heap.size) :
    Calls Try.prog 23 #[v] w fun e w' => e = .returned (.map (some w.heap.size)) ∧ Keep (fun k => k < w.heap.size) w w' ∧ SetIn w' w.heap.size (onceL ss) := by
  obtain ⟨a, cap, rfl, hlen, hcap, hel⟩ := id hs
  have hmm := fun w => run_makeMap_hint ss.length w
  have Xhs := Lib.hid hs
  have Xhel := Lib.hid hel
  clear hs hel
  go_enter Try.func23, Try.ntmps23
  go_wp2
  go_loopw [11] (fun i wr => ∃ k : Nat, k ≤ ss.length ∧ i = .int .i64 k ∧ Keep (fun j => j < w.heap.size) w wr ∧ SetIn wr w.heap.size (onceL (ss.take k))) (fun i _ => ss.length - (intOf i).toNat)
  case atStart => exact ⟨0, by omega, rfl, Keep.alloc _ _ _, setIn_new w⟩
  case round =>
    obtain ⟨k, hk, rfl, hK, hS⟩ := hrel
    by_cases hlt : k < ss.length
    · obtain ⟨s, hsk⟩ : ∃ s, ss[k]? = some s := ⟨_, List.getElem?_eq_getElem hlt⟩
      obtain ⟨b, off, rfl, hb, he⟩ := Xhel.out k s hsk
      have hc := hK.cell he (show b < w.heap.size by omega)
      simp only [Nat.mul_one] at hc
      obtain ⟨W1, hr1, hs1, hk1, hz1⟩ := run_update_set (P := Try.prog) (T := 67) (K := 9) (E := 4) Try.underlying67 Try.underlying9 hS s
      rw [← onceL_snoc, show ss.take k ++ [s] = ss.take (k + 1) from by rw [List.take_add_one, hsk]; rfl] at hs1
      have hK1 : Keep (fun j => j < w.heap.size) w W1 := hK.trans (hk1.mono fun b _ h => by omega)
      clear he hmm hk1 hz1
      have XhK := Lib.hid hK
      have XhS := Lib.hid hS
      have Xhs1 := Lib.hid hs1
      have XhK1 := Lib.hid hK1
      have Xhsk := Lib.hid hsk
      clear hK hS hs1 hK1 hsk
      go_wp2
      go_roundw
      case rel => exact ⟨k + 1, by omega, by go_num, XhK1.out, Xhs1.out⟩
      case measure => simp [intOf]; omega
    · obtain rfl : k = ss.length := by omega
      rw [List.take_length] at hS
      clear hmm
      have XhK := Lib.hid hK
      have XhS := Lib.hid hS
      clear hK hS
      go_wp2
      go_ret
      exact ⟨rfl, XhK.out, XhS.out⟩

theorem el_lits : ElemOf Try.prog 25 37 7 96 := elem_of (z := .agg #[.int .i64 0, .string ⟨#[]⟩, .slice none 0 0, .bool false, .string ⟨#[]⟩, .bool false, .string ⟨#[]⟩]) (by kernel_rfl) (by kernel_rfl) rfl (by decide) (by decide)

theorem filter_snoc (l : List LitD) (k : Nat) (L : LitD) (h : l[k]? = some L) : (l.take (k + 1)).filter (fun L => L.kind == 1) = (l.take k).filter (fun L => L.kind == 1) ++ if L.kind == 1 then [L] else [] := by
  rw [List.take_add_one, h]
  simp [List.filter_cons]

set_option maxRecDepth 100000 in
set_option maxHeartbeats 1000000 in
theorem bound_any (n0 : Nat) (v : Value) (body : List LitD) (w : World) (hs : LitsIn n0 w v body) (hn : n0 ≤ w.heap.size) (hN : (body.flatMap LitD.uses).length ≤ 1073741824) :
    Calls Try.prog 18 #[v] w fun e w' => ∃ v', e = .returned v' ∧ Keep (fun k => k < w.heap.size) w w' ∧ w'.ownsRow w.heap.size 9 1 v' (boundOf body).length ((boundOf body).map .string) := by
  obtain ⟨a, cap, rfl, hlen, hcap, hel⟩ := id hs
  have Xhs := Lib.hid hs
  have Xhel := Lib.hid hel
  clear hs hel
  refine calls_of0 Try.func18 rfl ?_
  simp only [Try.ntmps18, List.size_toArray, List.length_cons, List.length_nil, Nat.reduceAdd, Nat.reduceSub, Array.replicate_succ, Array.replicate_zero, List.push_toArray, List.append_toArray, List.nil_append, List.cons_append]
  gi_wp2
  gi_loopw [3, 8] (fun v3 i wr => ∃ (k : Nat) (ps : List (LitD × Value)), k ≤ body.length ∧ i = .int .i64 k ∧ Keep (fun j => j < w.heap.size) w wr ∧ wr.ownsRow w.heap.size 37 7 v3 ps.length (ps.flatMap fun p => litCells p.1 p.2) ∧
     ps.map (·.1) = (body.take k).filter (fun L => L.kind == 1) ∧ ps.length ≤ k ∧ ∀ p, p ∈ ps → TermsIn n0 w p.2 p.1.atom.args) (fun _ i _ => body.length - (intOf i).toNat)
  case atStart => exact ⟨0, [], by omega, rfl, Keep.refl _ _, World.ownsRow_nil _ _ _ _, rfl, by simp, by simp⟩
  case round =>
    obtain ⟨k, ps, hk, rfl, hK, hO, hps, hpl, hpt⟩ := hrel
    have hws := hK.size
    by_cases hlt : k < body.length
    · obtain ⟨L, hL⟩ : ∃ L, body[k]? = some L := ⟨_, List.getElem?_eq_getElem hlt⟩
      obtain ⟨b, off, rfl, hb, sa, hcl, hts⟩ := Xhel.out k L hL
      have g : ∀ j v, (litCells L sa)[j]? = some v → wr.cell? ⟨b, off + k * 7 + j, none⟩ = some v := fun j v h => hK.cell (hcl j v h) (show b < w.heap.size by omega)
      have hfs := filter_snoc body k L hL
      obtain ⟨aa, caps, rfl, hlens, hcaps, hels⟩ := id hts
      have d0 := g 0 _ rfl
      have d1 := g 1 _ rfl
      have d2 := g 2 _ rfl
      have d3 := g 3 _ rfl
      have d4 := g 4 _ rfl
      have d5 := g 5 _ rfl
      have d6 := g 6 _ rfl
      simp only [Nat.add_zero] at d0
      by_cases hk1 : L.kind = 1
      · have hkb : (L.kind == 1) = true := by simp [hk1]
        rw [hkb, if_pos rfl, ← hps] at hfs
        have hO1 := own_kept hO (Keep.alloc (fun _ => True) wr (.cells (litCells L (.slice aa L.atom.args.length caps)).toArray 37)) (fun _ _ => trivial)
        obtain ⟨v2, W2, hr2, ho2, hk2, g2, cap2, hv2, hg2, hl2⟩ := app1 el_lits 25 hO1 (litCells L (.slice aa L.atom.args.length caps)) rfl (by simp [litCells, Value.oneCell']) (by omega) (by simp; omega)
        subst hv2
        have hK2 : Keep (fun j => j < w.heap.size) w W2 := (hK.trans (Keep.alloc _ _ _)).trans (hk2.mono fun b hb h e => by have := (World.ownsRow.lt hO1 b e.symm).1; omega)
        have hpt2 : ∀ p, p ∈ ps ++ [(L, .slice aa L.atom.args.length caps)] → TermsIn n0 w p.2 p.1.atom.args := fun p hp => by
          rcases List.mem_append.1 hp with h | h
          · exact hpt p h
          · simp only [List.mem_singleton] at h; subst h; exact hts
        have ho3 : W2.ownsRow w.heap.size 37 7 (.slice (some ⟨g2, 0, none⟩) (ps.length + 1) cap2) (ps ++ [(L, Value.slice aa L.atom.args.length caps)]).length ((ps ++ [(L, Value.slice aa L.atom.args.length caps)]).flatMap fun p => litCells p.1 p.2) := by
          simpa using ho2
        have hps2 : (ps ++ [(L, Value.slice aa L.atom.args.length caps)]).map (·.1) = (body.take (k + 1)).filter (fun L => L.kind == 1) := by rw [hfs]; simp
        simp only [World.size_alloc, litCells] at hr2
        clear g hcl hels hO hO1 ho2 hk2 hpt hps hL hfs hg2 hk1 hts
        have XhK := Lib.hid hK
        have Xhr2 := Lib.hid hr2
        have XhK2 := Lib.hid hK2
        have Xhpt2 := Lib.hid hpt2
        have Xho3 := Lib.hid ho3
        have Xhps2 := Lib.hid hps2
        clear hK hr2 hK2 hpt2 ho3 hps2
        gi_wp2_with (gi_at_builtin; refine gi_app rfl _ _ _ rfl rfl rfl Xhr2.out ?_)
        go_roundw
        case rel => exact ⟨k + 1, ps ++ [(L, .slice aa L.atom.args.length caps)], by omega, by go_num, XhK2.out, Xho3.out, Xhps2.out, by simp; omega, Xhpt2.out⟩
        case measure => simp [intOf]; omega
      · have hkb : (L.kind == 1) = false := by simp [hk1]
        rw [hkb, if_neg (by simp), ← hps, List.append_nil] at hfs
        have hK2 : Keep (fun j => j < w.heap.size) w (wr.alloc (.cells (litCells L (.slice aa L.atom.args.length caps)).toArray 37)) := hK.trans (Keep.alloc _ _ _)
        have hO1 := own_kept hO (Keep.alloc (fun _ => True) wr (.cells (litCells L (.slice aa L.atom.args.length caps)).toArray 37)) (fun _ _ => trivial)
        clear g hcl hels hO hps hL hk1 hts
        have XhK := Lib.hid hK
        have XhK2 := Lib.hid hK2
        have Xhpt := Lib.hid hpt
        have XhO1 := Lib.hid hO1
        have Xhfs := Lib.hid hfs
        clear hK hK2 hpt hO1 hfs
        gi_wp2
        go_roundw
        case rel => exact ⟨k + 1, ps, by omega, by go_num, XhK2.out, XhO1.out, Xhfs.out.symm, by omega, Xhpt.out⟩
        case measure => simp [intOf]; omega
    · obtain rfl : k = body.length := by omega
      rw [List.take_length] at hps
      have hLs := own_lits (n0 := n0) hO (by omega) (by omega) (fun p hp => terms_keep (hpt p hp) (hK.mono fun b _ h => by omega))
      rw [hps] at hLs
      obtain ⟨a3, cap3, rfl, hl3, hc3, he3⟩ := id hLs
      have hrule : RuleIn wr.heap.size wr (.slice none 0 0) (.slice a3 (body.filter fun L => L.kind == 1).length cap3) ⟨⟨⟨#[]⟩, []⟩, body.filter fun L => L.kind == 1⟩ := ⟨⟨none, 0, rfl, by simp, by simp [maxLen], by simp⟩, hLs⟩
      have hnm : RuleD.names ⟨⟨⟨#[]⟩, []⟩, body.filter fun L => L.kind == 1⟩ = (body.filter fun L => L.kind == 1).flatMap LitD.uses := by rw [names_eq]; simp [RuleD.headLit, LitD.uses, LitD.terms]
      have hsub : ∀ l : List LitD, ((l.filter fun L => L.kind == 1).flatMap LitD.uses).length ≤ (l.flatMap LitD.uses).length := by
        intro l
        induction l with
        | nil => simp
        | cons L l ih =>
          by_cases h : (L.kind == 1) = true
          · simp only [List.filter_cons, h, if_true, List.flatMap_cons, List.length_append]; omega
          · simp only [List.filter_cons, h, if_false, List.flatMap_cons, List.length_append, Bool.false_eq_true]; omega
      have hst : (RuleD.stands ⟨⟨⟨#[]⟩, []⟩, body.filter fun L => L.kind == 1⟩).length ≤ 1073741824 := by
        have := congrArg List.length hnm
        simp only [RuleD.names, List.length_map] at this
        have := hsub body
        omega
      clear hpt hps hLs hsub he3
      have XhK := Lib.hid hK
      have XhO := Lib.hid hO
      have Xhrule := Lib.hid hrule
      have Xhnm := Lib.hid hnm
      have Xhst := Lib.hid hst
      clear hK hO hrule hnm hst
      gi_wp2
      refine ⟨trivial, rfl, (callsIn_wide.2 (vars_any _ _ _ _ Xhrule.out Xhst.out)).mono ?_⟩
      rintro e w' ⟨v', rfl, hk', ho'⟩
      rw [Xhnm.out] at ho'
      have Xhk' := Lib.hid hk'
      have Xho' := Lib.hid ho'
      clear hk' ho'
      gi_wp2
      go_ret
      exact ⟨_, rfl, XhK.out.trans (Xhk'.out.mono fun b _ h => by omega), Xho'.out.mono hws⟩

end Go.Proofs
