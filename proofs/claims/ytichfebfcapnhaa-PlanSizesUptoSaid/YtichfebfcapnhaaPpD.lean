/- Layer 16 (plan): the document's SameSizes, of lists that are the same. -/
import Derived.Test.YtichfebfcapnhaaProg
import Derived.Test.YtichfebfcapnhaaPpA
import Derived.Test.YtichfebfcapnhaaPnJ
import Derived.Deep.RegionHeld3
import Derived.BigQuiet
namespace Go.Proofs
open Go.RowKit Go.Ink
set_option linter.unusedVariables false
set_option linter.unusedSimpArgs false
attribute [local go_sem] Oper.semAt_some

set_option maxRecDepth 100000 in
set_option maxHeartbeats 2000000 in
theorem sameSizes_eq (n : Nat) (va vb : Value) (ss : List SizeD) (w : World) (ha : SizesIn n w va ss) (hb : SizesIn n w vb ss) (hn : n ≤ w.heap.size) :
    Calls Try.prog 28 #[va, vb] w fun e w' => e = .returned (.bool true) ∧ Keep (fun _ => True) w w' := by
  obtain ⟨aa, ca, rfl, hla, hca, hea⟩ := id ha
  obtain ⟨ab, cb, rfl, hlb, hcb, heb⟩ := id hb
  have Xhea := Lib.hid hea
  have Xheb := Lib.hid heb
  have Xha := Lib.hid ha
  have Xhb := Lib.hid hb
  clear hea heb ha hb
  go_enter Try.func28, Try.ntmps28
  go_wp2_with fail
  go_loopw [5] (fun i' wr => ∃ k : Nat, k ≤ ss.length ∧ i' = .int .i64 (k : Int) ∧ Keep (fun _ => True) w wr) (fun i _ => ss.length - (intOf i).toNat)
  case atStart => exact ⟨0, by omega, rfl, Keep.refl _ _⟩
  case round =>
    obtain ⟨k, hk, rfl, hK⟩ := hrel
    have hsz := hK.size
    by_cases hlt : k < ss.length
    · have hlt1 : (k : Int) < ss.length := by omega
      have hk0 : (0 : Int) ≤ k := by omega
      obtain ⟨x, hx⟩ : ∃ x, ss[k]? = some x := ⟨_, List.getElem?_eq_getElem hlt⟩
      obtain ⟨b4, o4, rfl, hb4, dv, hc4, hd4⟩ := Xhea.out k x hx
      obtain ⟨b5, o5, rfl, hb5, ev, hc5, hd5⟩ := Xheb.out k x hx
      have a0 := hK.cell (hc4 0 _ rfl) trivial
      have a1 := hK.cell (hc4 1 _ rfl) trivial
      have a2 := hK.cell (hc4 2 _ rfl) trivial
      have e0 := hK.cell (hc5 0 _ rfl) trivial
      have e1 := hK.cell (hc5 1 _ rfl) trivial
      have e2 := hK.cell (hc5 2 _ rfl) trivial
      simp only [Nat.add_zero] at a0 e0
      have hb4w : b4 < wr.heap.size := by omega
      have hb5w : b5 < wr.heap.size := by omega
      have hsi := refSameInts_any n dv ev x.dist x.dist wr.drew (ints_kept hd4 ((hK.trans (Keep.drew _ _)).mono fun _ _ _ => trivial)) (ints_kept hd5 ((hK.trans (Keep.drew _ _)).mono fun _ _ _ => trivial)) (by simp; omega)
      rw [decide_eq_true (rfl : x.dist = x.dist)] at hsi
      obtain ⟨ad, cd, rfl, -, -, -⟩ := id hd4
      obtain ⟨ae, ce, rfl, -, -, -⟩ := id hd5
      obtain ⟨p, hp⟩ : ∃ p, x.pred = p := ⟨_, rfl⟩
      obtain ⟨rw', hrw⟩ : ∃ p, x.rows = p := ⟨_, rfl⟩
      rw [hp] at a0 e0
      rw [hrw] at a1 e1
      have hpp : (p != p) = false := by simp
      have hrr : (rw' != rw') = false := by simp
      clear hc4 hc5 hd4 hd5 hx hp hrw
      have XhK := Lib.hid hK
      have Xhsi := Lib.hid hsi
      clear hK hsi
      go_wp2_with fail
      go_region_held3 (fun W => W.cell? ⟨b4, o4 + k * 3, none⟩ = some (.string p) ∧ W.cell? ⟨b4, o4 + k * 3 + 1, none⟩ = some (.int .i64 rw') ∧ W.cell? ⟨b4, o4 + k * 3 + 2, none⟩ = some (.slice ad x.dist.length cd) ∧ W.cell? ⟨b5, o5 + k * 3, none⟩ = some (.string p) ∧ W.cell? ⟨b5, o5 + k * 3 + 1, none⟩ = some (.int .i64 rw') ∧ W.cell? ⟨b5, o5 + k * 3 + 2, none⟩ = some (.slice ae x.dist.length ce))
        (first | (refine ⟨?_, ?_, ?_, ?_, ?_, ?_⟩ <;> assumption) | go_keep)
        ((go_at_call 35; refine Xhsi.out.mono ?_; rintro e w2 ⟨rfl, hq⟩; have a0' := hq.cell a0 trivial; have a1' := hq.cell a1 trivial; have a2' := hq.cell a2 trivial; have e0' := hq.cell e0 trivial; have e1' := hq.cell e1 trivial; have e2' := hq.cell e2 trivial; clear a0 a1 a2 e0 e1 e2))
      have kq : Keep (fun _ => True) w w2 := (XhK.out.trans (Keep.drew _ _)).trans hq
      clear hq a0' a1' a2' e0' e1' e2'
      have Xkq := Lib.hid kq
      clear kq
      go_wp2_with fail
      go_roundw
      case rel => exact ⟨k + 1, by omega, by go_num, Xkq.out⟩
      case measure => simp [intOf]; omega
    · obtain rfl : k = ss.length := by omega
      have hlt0 : ¬ (ss.length : Int) < ss.length := by omega
      have XhK := Lib.hid hK
      clear hK
      go_wp2_with fail
      refine bodyPost_ret (v := .bool true) (by simp [results, Try.results28, go_sem]) rfl ?_
      exact ⟨rfl, XhK.out⟩
end Go.Proofs
