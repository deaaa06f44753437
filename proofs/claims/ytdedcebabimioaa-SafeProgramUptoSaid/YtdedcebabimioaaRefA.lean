/- inklingref12.Has, once and Bound. -/
import Derived.Test.YtdedcebabimioaaProg
import Derived.Test.YtdedcebabimioaaUses
import Derived.Test.YtdedcebabimioaaSmall
import Derived.Test.YtdedcebabimioaaVars
import Derived.Test.YtdedcebabimioaaMapped
namespace Go.Proofs
open Go.RowKit Go.Ink
set_option linter.unusedVariables false
set_option linter.unusedSimpArgs false
attribute [local go_sem] Oper.semAt_some

set_option maxRecDepth 100000 in
theorem has_any (n : Nat) (va : Value) (xs : List ByteArray) (x : ByteArray) (w : World) (ha : StrsIn n w va xs) (hn : n ≤ w.heap.size) :
    Calls Try.prog 29 #[va, .string x] w fun e w' => e = .returned (.bool (decide (x ∈ xs))) ∧ Keep (fun _ => True) w w' := by
  obtain ⟨aa, ca, rfl, hla, hca, hea⟩ := id ha
  have Xha := Lib.hid ha
  have Xhea := Lib.hid hea
  clear ha hea
  go_enter Try.func29, Try.ntmps29
  go_wp2_with fail
  go_loopw [5] (fun i wr => ∃ k : Nat, k ≤ xs.length ∧ i = .int .i64 k ∧ Keep (fun _ => True) w wr ∧ x ∉ xs.take k) (fun i _ => xs.length - (intOf i).toNat)
  case atStart => exact ⟨0, by omega, rfl, Keep.refl _ _, by simp⟩
  case round =>
    obtain ⟨k, hk, rfl, hK, hall⟩ := hrel
    by_cases hlt : k < xs.length
    · obtain ⟨y, hx⟩ : ∃ x, xs[k]? = some x := ⟨_, List.getElem?_eq_getElem hlt⟩
      obtain ⟨ba, oa, rfl, hba, hxa⟩ := Xhea.out k y hx
      have f1 := hK.cell hxa trivial
      simp only [Nat.mul_one] at f1
      have hs := hK.size
      have hb1 : ba < wr.heap.size := by omega
      have hlt1 : (k : Int) < xs.length := by omega
      have hk0 : (0 : Int) ≤ k := by omega
      by_cases hxy : y = x
      · have hne := str_same hxy
        have hyes : decide (x ∈ xs) = true := by
          simp only [decide_eq_true_eq]
          rw [← hxy]; exact List.mem_of_getElem? hx
        clear hall hx hxy hxa
        have Xhyes := Lib.hid hyes
        have XhK := Lib.hid hK
        clear hyes hK
        go_wp2_with fail
        go_ret
        exact ⟨by rw [Xhyes.out]; try rfl, XhK.out⟩
      · have hne := str_other hxy
        have hall2 : x ∉ xs.take (k + 1) := by
          rw [List.take_add_one, hx]
          simp only [Option.toList_some, List.mem_append, List.mem_singleton, not_or]
          exact ⟨hall, fun e => hxy e.symm⟩
        clear hall hx hxy hxa
        have Xhall2 := Lib.hid hall2
        have XhK := Lib.hid hK
        clear hall2 hK
        go_wp2_with fail
        go_roundw
        case rel => exact ⟨k + 1, by omega, by go_num, XhK.out, Xhall2.out⟩
        case measure => simp [intOf]; omega
    · have hno : decide (x ∈ xs) = false := by
        simp only [decide_eq_false_iff_not]
        rw [List.take_of_length_le (by omega)] at hall
        exact hall
      clear hall
      have Xhno := Lib.hid hno
      have XhK := Lib.hid hK
      clear hno hK
      go_wp2_with fail
      go_ret
      exact ⟨by rw [Xhno.out]; try rfl, XhK.out⟩

set_option maxRecDepth 100000 in
set_option maxHeartbeats 1000000 in
theorem onceU_any (n : Nat) (v : Value) (us : List (Int × ByteArray)) (w : World) (hs : UsesIn n w v us) (hn : n ≤ w.heap.size) :
    Calls Try.prog 37 #[v] w fun e w' => ∃ v', e = .returned v' ∧ Keep (fun k => k < w.heap.size) w w' ∧
      w'.ownsRow w.heap.size 9 1 v' (onceL (us.map (·.2))).length ((onceL (us.map (·.2))).map .string) := by
  obtain ⟨a, cap, rfl, hlen, hcap, hel⟩ := id hs
  have Xhs := Lib.hid hs
  have Xhel := Lib.hid hel
  clear hs hel
  go_enter Try.func37, Try.ntmps37
  go_wp2_with fail
  go_loopw [3, 4] (fun v3 ix wr => ∃ k : Nat, k ≤ us.length ∧ ix = .int .i64 k ∧ Keep (fun k => k < w.heap.size) w wr ∧ wr.ownsRow w.heap.size 9 1 v3 (onceL ((us.take k).map (·.2))).length ((onceL ((us.take k).map (·.2))).map .string)) (fun _ i _ => us.length - (intOf i).toNat)
  case atStart => exact ⟨0, by omega, rfl, Keep.refl _ _, World.ownsRow_nil _ _ _ _⟩
  case round =>
    obtain ⟨k, hk, rfl, hK, hO⟩ := hrel
    have hszk := hK.size
    by_cases hlt : k < us.length
    · obtain ⟨x, hx⟩ : ∃ x, us[k]? = some x := ⟨_, List.getElem?_eq_getElem hlt⟩
      obtain ⟨b, off, rfl, hb, he⟩ := Xhel.out k x hx
      have f0 := hK.cell he.1 (show b < w.heap.size by omega)
      have f1 := hK.cell he.2 (show b < w.heap.size by omega)
      have hbw : b < wr.heap.size := by omega
      have htk : onceL ((us.take (k + 1)).map (·.2)) = if x.2 ∈ onceL ((us.take k).map (·.2)) then onceL ((us.take k).map (·.2)) else onceL ((us.take k).map (·.2)) ++ [x.2] := by
        rw [← onceL_snoc, List.take_add_one, hx, List.map_append]; rfl
      have hol : (onceL ((us.take k).map (·.2))).length ≤ k := by
        refine Nat.le_trans (onceL_len _) ?_
        rw [List.length_map, List.length_take]; omega
      have hS := own_strs hO (by omega)
      obtain ⟨ss, hss⟩ : ∃ ss, onceL ((us.take k).map (·.2)) = ss := ⟨_, rfl⟩
      rw [hss] at hO htk hol hS
      clear hss hx he
      have XhK := Lib.hid hK
      have XhO := Lib.hid hO
      have Xhtk := Lib.hid htk
      have XhS := Lib.hid hS
      clear hK hO htk hS
      go_wp2_with fail
      refine (has_any wr.heap.size _ ss x.2 _ XhS.out (Nat.le_refl _)).mono ?_
      rintro e W1 ⟨rfl, k1⟩
      have f1' := k1.cell f1 trivial
      have f0' := k1.cell f0 trivial
      have z1 := k1.size
      have hK1 := XhK.out.trans (k1.mono fun _ _ _ => trivial)
      have hO1 := own_kept XhO.out k1 (fun _ _ => trivial)
      have hbw1 : b < W1.heap.size := by omega
      clear k1 f0 f1
      by_cases hin : x.2 ∈ ss
      · rw [decide_eq_true hin]
        have htk2 := Xhtk.out
        rw [if_pos hin] at htk2
        clear hin
        have XhK1 := Lib.hid hK1
        have XhO1 := Lib.hid hO1
        have Xhtk2 := Lib.hid htk2
        clear hK1 hO1 htk2
        go_wp2_with fail
        go_roundw
        case rel => exact ⟨k + 1, by omega, by go_num, XhK1.out, by rw [Xhtk2.out]; exact XhO1.out⟩
        case measure => simp [intOf]; omega
      · rw [decide_eq_false hin]
        have htk2 := Xhtk.out
        rw [if_neg hin] at htk2
        obtain ⟨v', W2, hr2, ho2, hk2, g2, cap2, hv2, hg2, hl2⟩ := app1 el_strs 56 hO1 [.string x.2] rfl (by simp [Value.oneCell']) (by omega) (by omega)
        subst hv2
        have kW := hK1.trans (hk2.mono fun b _ h => own_not hO1 h)
        have ho3 : W2.ownsRow w.heap.size 9 1 (.slice (some ⟨g2, 0, none⟩) (ss.length + 1) cap2) (onceL ((us.take (k + 1)).map (·.2))).length ((onceL ((us.take (k + 1)).map (·.2))).map .string) := by
          rw [htk2]
          simpa using ho2
        clear hin htk2 ho2 hk2 hg2 hl2
        have XhK1 := Lib.hid hK1
        have XhO1 := Lib.hid hO1
        have Xhr2 := Lib.hid hr2
        have XkW := Lib.hid kW
        have Xho3 := Lib.hid ho3
        clear hK1 hO1 hr2 kW ho3
        go_wp2_with (at_builtin; refine go_app rfl _ _ _ rfl rfl rfl Xhr2.out ?_)
        go_roundw
        case rel => exact ⟨k + 1, by omega, by go_num, XkW.out, Xho3.out⟩
        case measure => simp [intOf]; omega
    · obtain rfl : k = us.length := by omega
      rw [List.take_length] at hO
      have XhK := Lib.hid hK
      have XhO := Lib.hid hO
      clear hK hO
      go_wp2_with fail
      go_ret
      exact ⟨_, rfl, XhK.out, XhO.out⟩
end Go.Proofs
