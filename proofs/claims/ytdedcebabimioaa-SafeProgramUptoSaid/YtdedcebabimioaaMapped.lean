/- mapped: terms with a text behind each variable's name. -/
import Derived.Test.YtdedcebabimioaaProg
import Derived.Test.YtdedcebabimioaaCopy
import Derived.Laws.Concat
namespace Go.Proofs
open Go.RowKit Go.Ink
set_option linter.unusedVariables false
set_option linter.unusedSimpArgs false
attribute [local go_sem] Oper.semAt_some

/-- a term with a text behind its name, where it is a variable -/
def mapT (more : ByteArray) (t : TermD) : TermD := if t.var then ⟨true, t.text ++ more⟩ else t

theorem own_form {w : World} {base : Nat} {e : TypeId} {sz : Nat} {v : Value} {n : Nat} {xs : List Value} (h : w.ownsRow base e sz v n xs) : ∃ a c, v = .slice a n c := by
  rcases h.2 with ⟨h1, h2⟩ | ⟨g, c, _, h1, _⟩
  · exact ⟨none, 0, by rw [h1, h2]⟩
  · exact ⟨_, c, h1⟩

set_option maxRecDepth 100000 in
set_option maxHeartbeats 1000000 in
theorem mapped_any (n0 : Nat) (v : Value) (more : ByteArray) (ts : List TermD) (w : World) (hs : TermsIn n0 w v ts) (hn : n0 ≤ w.heap.size) (hz : ∀ t, t ∈ ts → t.text.size + more.size ≤ 9223372036854775807) :
    Calls Try.prog 32 #[v, .string more] w fun e w' => ∃ a c, e = .returned (.slice a ts.length c) ∧ Keep (fun k => k < w.heap.size) w w' ∧
      w'.ownsRow w.heap.size 35 2 (.slice a ts.length c) ts.length (termCells (ts.map (mapT more))) := by
  obtain ⟨a, cap, rfl, hlen, hcap, hel⟩ := id hs
  have Xhs := Lib.hid hs
  have Xhel := Lib.hid hel
  have Xhz := Lib.hid hz
  clear hs hel hz
  go_enter Try.func32, Try.ntmps32
  go_wp2_with fail
  go_loopw [5, 6] (fun v5 i wr => ∃ k : Nat, k ≤ ts.length ∧ i = .int .i64 k ∧ Keep (fun j => j < w.heap.size) w wr ∧ wr.ownsRow w.heap.size 35 2 v5 k (termCells ((ts.take k).map (mapT more)))) (fun _ i _ => ts.length - (intOf i).toNat)
  case atStart => exact ⟨0, by omega, rfl, Keep.refl _ _, World.ownsRow_nil _ _ _ _⟩
  case round =>
    obtain ⟨k, hk, rfl, hK, hO⟩ := hrel
    have hws := hK.size
    by_cases hlt : k < ts.length
    · obtain ⟨t, ht⟩ : ∃ t, ts[k]? = some t := ⟨_, List.getElem?_eq_getElem hlt⟩
      obtain ⟨b, off, rfl, hb, e1, e2⟩ := Xhel.out k t ht
      have f1 := hK.cell e1 (show b < w.heap.size by omega)
      have f2 := hK.cell e2 (show b < w.heap.size by omega)
      have hbw : b < wr.heap.size := by omega
      have hadd : ∀ w', (Op.stringOp .add t.text more).run Try.prog w' = .ok (.string (t.text ++ more)) w' := fun w' => by apply run_string_add_sum; exact Xhz.out t (List.mem_of_getElem? ht)
      obtain ⟨t', ht'⟩ : ∃ t', mapT more t = t' := ⟨_, rfl⟩
      have htk : (ts.take (k + 1)).map (mapT more) = (ts.take k).map (mapT more) ++ [t'] := by rw [List.take_add_one, ht, List.map_append, ← ht']; rfl
      have hO1 := own_kept hO (Keep.alloc (fun _ => True) wr (.cells #[.bool t'.var, .string t'.text] 35)) (fun _ _ => trivial)
      obtain ⟨v2, W2, hr2, ho2, hk2, g2, cap2, hv2, hg2, hl2⟩ := app1 (P := Try.prog) el_terms 22 hO1 [.bool t'.var, .string t'.text] rfl (by simp [Value.oneCell']) (by omega) (by simp; omega)
      subst hv2
      have hK2 : Keep (fun j => j < w.heap.size) w W2 := (hK.trans (Keep.alloc _ _ _)).trans (hk2.mono fun b hb h e => by have := (World.ownsRow.lt hO1 b e.symm).1; omega)
      have ho3 : W2.ownsRow w.heap.size 35 2 (.slice (some ⟨g2, 0, none⟩) (k + 1) cap2) (k + 1) (termCells ((ts.take (k + 1)).map (mapT more))) := by
        rw [htk]; simpa [termCells] using ho2
      obtain ⟨tv, tt⟩ := t
      cases tv with
      | false =>
        have hte : t' = ⟨false, tt⟩ := by rw [← ht']; rfl
        subst hte
        simp only [World.size_alloc] at hr2
        clear e1 e2 ht htk hO hO1 ho2 hk2 hg2 hadd ht'
        have XhK := Lib.hid hK
        have XhK2 := Lib.hid hK2
        have Xho3 := Lib.hid ho3
        have Xhr2 := Lib.hid hr2
        clear hK hK2 ho3 hr2
        go_wp2_with (at_builtin; refine go_app rfl _ _ _ rfl rfl rfl Xhr2.out ?_)
        go_roundw
        case rel => exact ⟨k + 1, by omega, by go_num, XhK2.out, Xho3.out⟩
        case measure => simp [intOf]; omega
      | true =>
        have hte : t' = ⟨true, tt ++ more⟩ := by rw [← ht']; rfl
        subst hte
        simp only [World.size_alloc] at hr2
        clear e1 e2 ht htk hO hO1 ho2 hk2 hg2 ht'
        have XhK := Lib.hid hK
        have XhK2 := Lib.hid hK2
        have Xho3 := Lib.hid ho3
        have Xhr2 := Lib.hid hr2
        clear hK hK2 ho3 hr2
        go_wp2_with (at_builtin; refine go_app rfl _ _ _ rfl rfl rfl Xhr2.out ?_)
        go_roundw
        case rel => exact ⟨k + 1, by omega, by go_num, XhK2.out, Xho3.out⟩
        case measure => simp [intOf]; omega
    · obtain rfl : k = ts.length := by omega
      rw [List.take_length] at hO
      obtain ⟨a1, c1, hv⟩ := own_form hO
      rw [hv] at hO
      have XhK := Lib.hid hK
      have XhO := Lib.hid hO
      have Xhv := Lib.hid hv
      clear hK hO hv
      go_wp2_with fail
      go_ret
      exact ⟨a1, c1, by rw [← Xhv.out]; try rfl, XhK.out, XhO.out⟩
end Go.Proofs
