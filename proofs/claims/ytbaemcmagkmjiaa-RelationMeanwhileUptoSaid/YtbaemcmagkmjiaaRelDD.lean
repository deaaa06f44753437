/- Layer 4, the law RelationMeanwhile at an arity that is none. -/
import Derived.Test.YtbaemcmagkmjiaaProg
import Derived.Test.YtbaemcmagkmjiaaRelY
import Derived.Test.YtbaemcmagkmjiaaRelZ
namespace Go.Proofs
open Go.RowKit Go.Ink
set_option linter.unusedVariables false
set_option linter.unusedSimpArgs false
attribute [local go_sem] Oper.semAt_some

set_option maxRecDepth 100000 in
set_option maxHeartbeats 1000000 in
theorem meanwhile_bad (arity : Int) (hbad : arity < 0 ∨ 16 < arity) (m : Nat) (v1 v2 vc vk : Value) (tuples more : List (List Int)) (cols key : List Int) (w : World) (h1 : ListsIn m w v1 tuples) (h2 : ListsIn m w v2 more) (hc : IntsIn m w vc cols) (hk : IntsIn m w vk key) (hm : m ≤ w.heap.size) :
    Calls Try.prog 3 #[.int .i64 arity, v1, v2, vc, vk] w fun e w' => e = .returned (.bool true) ∧ Keep (fun b => b < w.heap.size) w w' := by
  refine calls_of Try.func3 rfl ?_
  simp only [Try.ntmps3, List.size_toArray, List.length_cons, List.length_nil, Nat.reduceAdd, Nat.reduceSub, Array.replicate_succ, Array.replicate_zero, List.push_toArray, List.append_toArray, List.nil_append, List.cons_append]
  obtain ⟨a1, c1, rfl, hl1, hc1, he1⟩ := id h1
  obtain ⟨a2, c2, rfl, hl2, hc2, he2⟩ := id h2
  obtain ⟨ac, cc, rfl, hlc, hcc, hec⟩ := id hc
  obtain ⟨ak, ck, rfl, hlk, hck, hek⟩ := id hk
  obtain ⟨W1, hW1⟩ : ∃ W1, (w.alloc (.cells #[.slice a2 more.length c2] 22)).alloc (.cells #[.bool false] 4) = W1 := ⟨_, rfl⟩
  have k1 : Keep (fun _ => True) w W1 := by rw [← hW1]; exact (Keep.alloc _ _ _).trans (Keep.alloc _ _ _)
  have z1 : W1.heap.size = w.heap.size + 1 + 1 := by rw [← hW1]; simp
  have g10 : BoxAt W1 (w.heap.size + 1) 4 (.bool false) := by rw [← hW1]; have := new_block (w.alloc (.cells #[.slice a2 more.length c2] 22)) (.cells #[.bool false] 4); rw [World.size_alloc] at this; exact this
  have h1' := lists_keep h1 (k1.mono fun _ _ _ => trivial) (Nat.le_refl _) (w' := W1) (m := m)
  have hfil := filled_bad arity hbad m _ tuples W1 h1'
  obtain ⟨b7, hb7⟩ : ∃ b7, w.heap.size = b7 := ⟨_, rfl⟩
  have zb : w.heap.size + 1 + 1 ≤ W1.heap.size := by omega
  clear z1 h1'
  have Xh1 := Lib.hid h1
  have Xh2 := Lib.hid h2
  have Xhc := Lib.hid hc
  have Xhk := Lib.hid hk
  have Xhe1 := Lib.hid he1
  have Xhe2 := Lib.hid he2
  have Xhec := Lib.hid hec
  have Xhek := Lib.hid hek
  have Xk1 := Lib.hid k1
  have Xg10 := Lib.hid g10
  have Xhfil := Lib.hid hfil
  have Xhb7 := Lib.hid hb7
  clear h1 h2 hc hk he1 he2 hec hek k1 g10 hfil hb7
  gi_wp2
  refine ⟨trivial, rfl, (callsIn_wide.2 Xhfil.out).mono ?_⟩
  rintro e W2 ⟨rfl, hW2⟩
  have hW2 := hW2.symm
  subst hW2
  obtain ⟨bT, hbT⟩ : ∃ bT, W1.heap.size = bT := ⟨_, rfl⟩
  obtain ⟨W3, hW3⟩ : ∃ W3, (W1.alloc (.cells #[.pointer none] 24)).alloc (.cells #[.pointer none] 25) = W3 := ⟨_, rfl⟩
  have k3 : Keep (fun _ => True) W1 W3 := by rw [← hW3]; exact (Keep.alloc _ _ _).trans (Keep.alloc _ _ _)
  have gR : BoxAt W3 (bT + 1) 25 (.pointer none) := by rw [← hW3, ← hbT]; have := new_block (W1.alloc (.cells #[.pointer none] 24)) (.cells #[.pointer none] 25); rw [World.size_alloc] at this; exact this
  have hkn := known4_any W3
  have cR := gR.cell
  have lR := gR.lt
  have zb7 := Xhb7.out
  have g10' := Xg10.out.keep k3 trivial
  rw [Xhb7.out] at g10'
  clear hW1
  have Xk3 := Lib.hid k3
  have XgR := Lib.hid gR
  have Xhkn := Lib.hid hkn
  have XhbT := Lib.hid hbT
  have XhW3 := Lib.hid hW3
  have Xzb7 := Lib.hid zb7
  have Xg10' := Lib.hid g10'
  clear k3 gR hkn hbT hW3 zb7 g10'
  rw [Xhb7.out]
  gi_wp2
  rw [XhW3.out, XhbT.out]
  refine ⟨trivial, rfl, (callsIn_wide.2 Xhkn.out).mono ?_⟩
  rintro e Wk ⟨rfl, kk⟩
  have g10k := Xg10'.out.keep kk trivial
  have c10 := g10k.cell
  have f10 := box_free g10k 0
  have l10 := g10k.lt
  have Xkk := Lib.hid kk
  have Xg10k := Lib.hid g10k
  clear kk g10k
  gi_wp2
  have hb8 := set_box (.bool true) Xg10k.out
  have hc8 := box_cell hb8
  refine leaves_nil (v := .bool true) (by simp [results, Try.results3, go_sem, hc8]) ⟨rfl, ?_⟩
  have kb8 : Keep (fun b => b ≠ b7 + 1) Wk (Wk.setCell ⟨b7 + 1, 0, none⟩ (.bool true)) := Keep.setCell _ _ _ (by simp)
  have e7 := Xhb7.out
  exact (((Xk1.out.trans Xk3.out).trans Xkk.out).mono fun _ _ _ => trivial).trans (kb8.mono fun b _ h => by omega)
end Go.Proofs
