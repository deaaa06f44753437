/- inklingref12.Bound. -/
import Derived.Test.YtdedcebabimioaaProg
import Derived.Test.YtdedcebabimioaaRefA
namespace Go.Proofs
open Go.RowKit Go.Ink
set_option linter.unusedVariables false
set_option linter.unusedSimpArgs false
attribute [local go_sem] Oper.semAt_some

/-- is it a positive literal of the body that this stands in? -/
def posAt (body : List LitD) (x : Int × ByteArray) : Bool := (body.getD x.1.toNat default).kind == 1
def noHead (body : List LitD) : RuleD := ⟨⟨⟨#[]⟩, []⟩, body⟩
theorem noHead_stands (body : List LitD) : (noHead body).stands = standsOf body 1 := by
  show (((noHead body).headLit.uses.map fun t => (((0 : Nat) : Int) - 1, t)) ++ standsOf body 1) = _
  have h : (noHead body).headLit.uses = [] := by simp [noHead, RuleD.headLit, LitD.uses, LitD.terms]
  rw [h]
  rfl
theorem standsOf_at : ∀ (ls : List LitD) (i : Nat) (x : Int × ByteArray), x ∈ standsOf ls (i + 1) → ∃ j, i ≤ j ∧ j < i + ls.length ∧ x.1 = (j : Int) := by
  intro ls
  induction ls with
  | nil => intro i x h; simp [standsOf] at h
  | cons L ls ih =>
    intro i x h
    rw [standsOf, List.mem_append] at h
    rcases h with h | h
    · obtain ⟨t, _, rfl⟩ := List.mem_map.1 h
      exact ⟨i, Nat.le_refl _, by simp, by simp only; omega⟩
    · obtain ⟨j, h1, h2, h3⟩ := ih (i + 1) x h
      exact ⟨j, by omega, by simp only [List.length_cons]; omega, h3⟩
theorem filter_pos (body : List LitD) : ∀ (ls : List LitD) (i : Nat), (∀ k, k < ls.length → body.getD (i + k) default = ls.getD k default) →
    ((standsOf ls (i + 1)).filter (posAt body)).map (·.2) = (ls.filter fun L => L.kind == 1).flatMap LitD.uses := by
  intro ls
  induction ls with
  | nil => intro i _; rfl
  | cons L ls ih =>
    intro i h
    have h0 : body.getD i default = L := by simpa using h 0 (by simp)
    have hr := ih (i + 1) fun k hk => by
      have := h (k + 1) (by simp only [List.length_cons]; omega)
      rw [show i + 1 + k = i + (k + 1) from by omega, this]
      rfl
    rw [standsOf, List.filter_append, List.map_append, hr]
    have hp : ∀ t, posAt body ((((i + 1 : Nat) : Int) - 1), t) = (L.kind == 1) := fun t => by
      unfold posAt
      have : ((((i + 1 : Nat) : Int) - 1)).toNat = i := by omega
      simp only [this, h0]
    have hf : ((L.uses.map fun t => (((i + 1 : Nat) : Int) - 1, t)).filter (posAt body)).map (·.2) = if L.kind == 1 then L.uses else [] := by
      rw [List.filter_map]
      have : (posAt body ∘ fun t : ByteArray => ((((i + 1 : Nat) : Int) - 1), t)) = fun _ => (L.kind == 1) := by funext t; exact hp t
      rw [this]
      cases L.kind == 1 with
      | true =>
        rw [List.filter_eq_self.2 (fun _ _ => rfl), List.map_map]
        exact List.map_id' _
      | false => simp
    rw [hf, List.filter_cons]
    cases hk : L.kind == 1 with
    | true => simp
    | false => simp
theorem bound_ref (body : List LitD) : onceL (((noHead body).stands.filter (posAt body)).map (·.2)) = boundOf body := by
  rw [noHead_stands, filter_pos body body 0 (fun k _ => by rw [Nat.zero_add])]
  rfl

set_option maxRecDepth 100000 in
set_option maxHeartbeats 1000000 in
theorem rbound_any (n0 : Nat) (v : Value) (body : List LitD) (w : World) (hs : LitsIn n0 w v body) (hn : n0 ≤ w.heap.size) (hN : (body.flatMap LitD.uses).length ≤ 1073741824) :
    Calls Try.prog 28 #[v] w fun e w' => ∃ v', e = .returned v' ∧ Keep (fun k => k < w.heap.size) w w' ∧ w'.ownsRow w.heap.size 9 1 v' (boundOf body).length ((boundOf body).map .string) := by
  obtain ⟨a, cap, rfl, hlen, hcap, hel⟩ := id hs
  have hrule : RuleIn w.heap.size w (.slice none 0 0) (.slice a body.length cap) (noHead body) := ⟨⟨none, 0, rfl, by simp [noHead], by simp [maxLen, noHead], by simp [noHead]⟩, lits_wider hs hn⟩
  have hst : (noHead body).stands.length ≤ 1073741824 := by
    have h : (noHead body).names.length = (noHead body).stands.length := by simp [RuleD.names]
    rw [← h, names_eq]
    simpa [noHead, RuleD.headLit, LitD.uses, LitD.terms] using hN
  have hat : ∀ x, x ∈ (noHead body).stands → ∃ j, j < body.length ∧ x.1 = (j : Int) := fun x hx => by
    rw [noHead_stands] at hx
    obtain ⟨j, _, h2, h3⟩ := standsOf_at body 0 x hx
    exact ⟨j, by omega, h3⟩
  have Xhs := Lib.hid hs
  have Xhel := Lib.hid hel
  have Xhrule := Lib.hid hrule
  have Xhst := Lib.hid hst
  have Xhat := Lib.hid hat
  clear hs hel hrule hst hat
  go_enter Try.func28, Try.ntmps28
  go_wp2_with fail
  refine (uses_any (noHead body) _ _ w Xhrule.out Xhst.out).mono ?_
  rintro e W1 ⟨v4, rfl, k1, ho1⟩
  have z1 := k1.size
  have hU := own_uses ho1 rfl Xhst.out
  obtain ⟨us, hus⟩ : ∃ us, (noHead body).stands = us := ⟨_, rfl⟩
  have hat := Xhat.out
  have hst := Xhst.out
  rw [hus] at hU ho1 hat hst
  have hfin : onceL ((us.filter (posAt body)).map (·.2)) = boundOf body := by rw [← hus]; exact bound_ref body
  obtain ⟨a4, c4, rfl, hl4, hc4, he4⟩ := id hU
  clear ho1 hU Xhat Xhst Xhrule hus
  have Xk1 := Lib.hid k1
  have Xhe4 := Lib.hid he4
  have Xhat := Lib.hid hat
  have Xhst := Lib.hid hst
  have Xhfin := Lib.hid hfin
  clear k1 he4 hat hst hfin
  go_wp2_with fail
  go_loopw [3, 5] (fun v3 ix wr => ∃ k : Nat, k ≤ us.length ∧ ix = .int .i64 k ∧ Keep (fun k => k < W1.heap.size) W1 wr ∧ wr.ownsRow W1.heap.size 81 2 v3 ((us.take k).filter (posAt body)).length (((us.take k).filter (posAt body)).flatMap useCells)) (fun _ i _ => us.length - (intOf i).toNat)
  case atStart => exact ⟨0, by omega, rfl, Keep.refl _ _, World.ownsRow_nil _ _ _ _⟩
  case round =>
    obtain ⟨k, hk, rfl, hK, hO⟩ := hrel
    have hszk := hK.size
    by_cases hlt : k < us.length
    · obtain ⟨x, hx⟩ : ∃ x, us[k]? = some x := ⟨_, List.getElem?_eq_getElem hlt⟩
      obtain ⟨j, hj, hxj⟩ := Xhat.out x (List.mem_of_getElem? hx)
      obtain ⟨b, off, rfl, hb, he⟩ := Xhe4.out k x hx
      have f0 := hK.cell he.1 hb
      have f1 := hK.cell he.2 hb
      have hbw : b < wr.heap.size := by omega
      obtain ⟨L, hL⟩ : ∃ L, body[j]? = some L := ⟨_, List.getElem?_eq_getElem hj⟩
      obtain ⟨bl, ol, rfl, hbl, sa, hcl, _⟩ := Xhel.out j L hL
      have f2 := hK.cell (Xk1.out.cell (hcl 0 _ rfl) (show bl < w.heap.size by omega)) (show bl < W1.heap.size by omega)
      simp only [Nat.add_zero] at f2
      have hblw : bl < wr.heap.size := by omega
      have hpo : posAt body x = (L.kind == 1) := by
        unfold posAt
        rw [hxj]
        simp [List.getD, hL]
      have htk : (us.take (k + 1)).filter (posAt body) = (us.take k).filter (posAt body) ++ if L.kind == 1 then [x] else [] := by
        rw [List.take_add_one, hx, List.filter_append]
        simp only [Option.toList_some, List.filter_cons, List.filter_nil, hpo]
      have hol : ((us.take k).filter (posAt body)).length ≤ k := by
        refine Nat.le_trans (List.length_filter_le _ _) ?_
        rw [List.length_take]; omega
      obtain ⟨xi, xn⟩ := x
      simp only at hxj
      subst hxj
      have hst := Xhst.out
      have hj1 : (j : Int) < body.length := by omega
      have hj0 : (0 : Int) ≤ j := by omega
      obtain ⟨fs, hfs⟩ : ∃ fs, (us.take k).filter (posAt body) = fs := ⟨_, rfl⟩
      rw [hfs] at hO htk hol
      clear hfs hx he hcl hL hpo
      by_cases hk1 : (L.kind == 1) = true
      · rw [if_pos hk1] at htk
        obtain ⟨v', W2, hr2, ho2, hk2, g2, cap2, hv2, hg2, hl2⟩ := app1 el_use 78 hO (useCells ((j : Int), xn)) rfl (by simp [useCells, Value.oneCell']) (by omega) (by omega)
        subst hv2
        have kW := hK.trans (hk2.mono fun b _ h => own_not hO h)
        have ho3 : W2.ownsRow W1.heap.size 81 2 (.slice (some ⟨g2, 0, none⟩) (fs.length + 1) cap2) ((us.take (k + 1)).filter (posAt body)).length (((us.take (k + 1)).filter (posAt body)).flatMap useCells) := by
          rw [htk]
          simpa using ho2
        simp only [useCells] at hr2
        clear htk ho2 hk2 hg2 hl2
        have XhK := Lib.hid hK
        have XhO := Lib.hid hO
        have Xhr2 := Lib.hid hr2
        have XkW := Lib.hid kW
        have Xho3 := Lib.hid ho3
        clear hK hO hr2 kW ho3
        go_wp2_with (at_builtin; refine go_app rfl _ _ _ rfl rfl rfl Xhr2.out ?_)
        go_roundw
        case rel => exact ⟨k + 1, by omega, by go_num, XkW.out, Xho3.out⟩
        case measure => simp [intOf]; omega
      · have hk1 : (L.kind == 1) = false := by simpa using hk1
        rw [hk1] at htk
        simp only [Bool.false_eq_true, if_false, List.append_nil] at htk
        have XhK := Lib.hid hK
        have XhO := Lib.hid hO
        have Xhtk := Lib.hid htk
        clear hK hO htk
        go_wp2_with fail
        go_roundw
        case rel => exact ⟨k + 1, by omega, by go_num, XhK.out, by rw [Xhtk.out]; exact XhO.out⟩
        case measure => simp [intOf]; omega
    · obtain rfl : k = us.length := by omega
      rw [List.take_length] at hO
      have hol : (us.filter (posAt body)).length ≤ 1073741824 := Nat.le_trans (List.length_filter_le _ _) Xhst.out
      have hU3 := own_uses hO rfl hol
      have kw : Keep (fun k => k < w.heap.size) w wr := Xk1.out.trans (hK.mono fun b _ h => by omega)
      clear hK hO
      have XhU3 := Lib.hid hU3
      have Xkw := Lib.hid kw
      clear hU3 kw
      go_wp2_with fail
      refine (onceU_any wr.heap.size _ (us.filter (posAt body)) wr XhU3.out (Nat.le_refl _)).mono ?_
      rintro e W3 ⟨v5, rfl, k3, ho3⟩
      rw [Xhfin.out] at ho3
      have kw3 := Xkw.out.trans (k3.mono fun b _ h => by omega)
      have ho4 := own_base2 ho3 (show w.heap.size ≤ wr.heap.size by omega)
      clear k3 ho3
      have Xkw3 := Lib.hid kw3
      have Xho4 := Lib.hid ho4
      clear kw3 ho4
      go_wp2_with fail
      go_ret
      exact ⟨_, rfl, Xkw3.out, Xho4.out⟩
end Go.Proofs
